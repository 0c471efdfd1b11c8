/- SessWindow. -/
import Derived.Test.YtloeadlmcdddnaaZA
import Derived.Test.YtloeadlmcdddnaaZ7
set_option linter.unusedVariables false
set_option linter.unusedSimpArgs false
set_option maxRecDepth 100000
namespace Go.Proofs.Ytloeadlmcdddnaa.Abs
open Go Go.RowKit
theorem w_far {first far : Int} (hf : 0 ≤ first ∧ first < 4294967296) (hr : 0 ≤ far ∧ far < 4294967296) : IntKind.u32.wrap (IntKind.u32.wrap (first + IntKind.u32.wrap (16 + far.tmod 4294967279)) - first) ≥ 16 := by
  rw [Int.tmod_eq_emod_of_nonneg hr.1, w32, w32, w32]
  omega
theorem wf33 {p : Pd} (hp : p.wf) : ({ p with op := 33 } : Pd).wf := ⟨⟨(show (0 : Int) ≤ 33 ∧ (33 : Int) < 256 by decide), hp.1.2⟩, hp.2⟩
theorem z_0 {zs : List Int} {a b : Int} (h : zs.length = 48 ∧ zs.getD 0 0 = a ∧ zs.getD 1 0 = b) : (zs.map (Value.int .u8))[0]? = some (.int .u8 a) := by
  match zs, h with
  | x :: y :: t, ⟨_, h1, _⟩ => exact congrArg (fun z => some (Value.int .u8 z)) h1
theorem z_1 {zs : List Int} {a b : Int} (h : zs.length = 48 ∧ zs.getD 0 0 = a ∧ zs.getD 1 0 = b) : (zs.map (Value.int .u8))[1]? = some (.int .u8 b) := by
  match zs, h with
  | x :: y :: t, ⟨_, _, h1⟩ => exact congrArg (fun z => some (Value.int .u8 z)) h1
theorem window_call {H : Hp} {first far : Int} {p : Pd} {x : Value} (hp : p.wf) (hx : Sl H 1 p.data.length (p.data.map (Value.int .u8)) x) (hfi : 0 ≤ first ∧ first < 4294967296) (hfa : 0 ≤ far ∧ far < 4294967296) :
  ACalls Try.prog 6 [.int .u32 first, .int .u32 far, .agg #[.int .u8 p.op, .int .u8 p.fl, .int .u8 p.res, .int .u8 p.st, .int .u8 p.lun, .int .u32 p.tag, .int .u32 p.w0, .int .u32 p.w1, .int .u32 p.w2, .int .u32 p.w3, .int .u32 p.w4, .int .u32 p.w5, .int .u32 p.w6, x]] H (fun v _ => v = .bool true) := by
 refine acallsW Try.func6 f6_ok (Nat.le_of_ble_eq_true rfl) fun hw => ?_
 have st : Stt [] H H [] := Stt.start hw
 obtain ⟨px, cx, rfl⟩ := hx.shape
 unfold f6c
 show AWl _ _ _ _ _
 refine aBoxN st rfl rfl (by repeat constructor) rfl fun b5 H1 st => ?_
 refine aN rfl rfl (by constructor) ?_
 refine sE ?_
 show AWl _ _ _ _ _
 refine aC (awake_call) fun v13 H2 ⟨hv, st1⟩ => ?_
 subst hv
 replace st := st.call st1 rfl
 clear st1
 refine aN rfl rfl (by constructor) ?_
 refine sE ?_
 show AW _ (.cond _ _ _) _ _ _
 refine cF' rfl ?_
 show AWl _ _ _ _ _
 refine aC (plain_call) fun v15 H3 ⟨hv, st1⟩ => ?_
 subst hv
 replace st := st.call st1 rfl
 clear st1
 refine aN rfl rfl (by constructor) ?_
 refine aC (new_call) fun v17 H4 ⟨b17, hv, st1⟩ => ?_
 subst hv
 replace st := st.call st1 rfl
 clear st1
 refine aN rfl rfl (by constructor) ?_
 refine sE ?_
 show AWl _ _ _ _ _
 iterate 4 refine aN rfl rfl (by constructor) ?_
 refine sE ?_
 show AWl _ _ _ _ _
 iterate 4 refine aN rfl rfl (by constructor) ?_
 refine aC (read_call) fun v26 H5 ⟨hv, st1⟩ => ?_
 subst hv
 replace st := st.call st1 rfl
 clear st1
 refine aC (in_out (cmd := first) (st.get (j := 0) rfl) (w_far hfi hfa)) fun v27 H6 ⟨hv, st1⟩ => ?_
 subst hv
 replace st := st.call st1 rfl
 clear st1
 iterate 5 refine aN rfl rfl (by constructor) ?_
 refine sE ?_
 show AWl _ _ _ _ _
 refine aN rfl rfl (by constructor) ?_
 refine aN (v := .int .i64 0) rfl rfl (by constructor) ?_
 refine aBinV (.bool false) rfl rfl rfl ?_
 refine aN rfl rfl (by constructor) ?_
 refine gT rfl ?_
 refine aN rfl rfl (by constructor) ?_
 refine gT rfl ?_
 refine aN (v := .int .i64 0) rfl rfl (by constructor) ?_
 refine gT rfl ?_
 refine aBinV (.bool false) rfl rfl rfl ?_
 iterate 2 refine aN rfl rfl (by constructor) ?_
 refine gT rfl ?_
 refine aN rfl rfl (by constructor) ?_
 refine gT rfl ?_
 refine aC (next_call (st.get (j := 0) rfl)) fun v40 H7 ⟨hv, st1⟩ => ?_
 subst hv
 replace st := st.call st1 rfl
 clear st1
 refine gT rfl ?_
 refine aN rfl rfl (by constructor) ?_
 refine gT rfl ?_
 refine aBinV (.bool false) rfl rfl ne_int ?_
 iterate 2 refine aN rfl rfl (by constructor) ?_
 refine gT rfl ?_
 refine aN rfl rfl (by constructor) ?_
 refine gT rfl ?_
 refine aC (waits0 (st.get (j := 0) rfl)) fun v46 H8 ⟨hv, st1⟩ => ?_
 subst hv
 replace st := st.call st1 rfl
 clear st1
 refine gT rfl ?_
 refine aBinV (.bool false) rfl rfl rfl ?_
 refine aN rfl rfl (by constructor) ?_
 refine sE ?_
 show AW _ (.cond _ _ _) _ _ _
 refine cF' rfl ?_
 show AWl _ _ _ _ _
 refine aN rfl rfl (by constructor) ?_
 refine aLdQ st 1 rfl rfl rfl (rfl : (Value.slice px p.data.length cx) = _) ?_
 refine aLen (st.slc hx) rfl ?_
 refine aN rfl rfl (by constructor) ?_
 refine sE ?_
 show AW _ (.cond _ _ _) _ _ _
 refine cC' rfl (fun h9 => ?_) (fun h9 => ?_)
 ·show AWl _ _ _ _ _
  refine aN rfl rfl (by constructor) ?_
  refine sE ?_
  refine ⟨_, out1 (r_tmp rfl (by constructor)), ?_⟩
  rfl
 ·have h8 : p.data.length ≤ 8192 := by have := of_decide_eq_false h9; omega
  show AWl _ _ _ _ _
  refine aN rfl rfl (by constructor) ?_
  refine aSt st 1 rfl rfl rfl rfl (by first | rfl | simp [cellsOf, *]) (by first | decide | (simp [*]; done) | (simp [k8]; done)) (by repeat constructor) fun H10 st => ?_
  refine sE ?_
  show AWl _ _ _ _ _
  refine aN rfl rfl (by constructor) ?_
  refine aLdA st 1 rfl rfl (by first | decide | simp [*]) (by repeat constructor) ?_
  refine aC (in_reject (p := p) (st.get (j := 0) rfl) (wf33 hp) (st.slc hx) (st.apart (j := 0) rfl hx) h8) fun v57 H11 ⟨c57, bp57, zs, hv, hz, st1⟩ => ?_
  subst hv
  replace st := st.callX 0 rfl st1 rfl
  clear st1
  iterate 5 refine aN rfl rfl (by constructor) ?_
  refine sE ?_
  show AWp _ _ _ _ _
  refine aN rfl rfl (by constructor) ?_
  refine aN (v := .int .i64 0) rfl rfl (by constructor) ?_
  refine aBinV (.bool true) rfl rfl rfl ?_
  refine aN rfl rfl (by constructor) ?_
  refine gT rfl ?_
  refine aN rfl rfl (by constructor) ?_
  refine gT rfl ?_
  refine aN (v := .int .i64 1) rfl rfl (by constructor) ?_
  refine gT rfl ?_
  refine aBinV (.bool true) rfl rfl rfl ?_
  iterate 2 refine aN rfl rfl (by constructor) ?_
  refine gT rfl ?_
  refine aN rfl rfl (by constructor) ?_
  refine gT rfl ?_
  refine aN rfl rfl (by constructor) ?_
  refine gT rfl ?_
  refine aN rfl rfl (by constructor) ?_
  refine gT rfl ?_
  refine aLd st 1 rfl rfl rfl (by constructor) ?_
  refine gT rfl ?_
  refine aBinV (.bool true) rfl rfl rfl ?_
  iterate 2 refine aN rfl rfl (by constructor) ?_
  refine gT rfl ?_
  refine aN rfl rfl (by constructor) ?_
  refine gT rfl ?_
  refine aN rfl rfl (by constructor) ?_
  refine gT rfl ?_
  refine aN rfl rfl (by constructor) ?_
  refine gT rfl ?_
  refine aLd st 1 rfl rfl rfl (by constructor) ?_
  refine gT rfl ?_
  refine aBinV (.bool true) rfl rfl rfl ?_
  iterate 2 refine aN rfl rfl (by constructor) ?_
  refine gT rfl ?_
  refine aN rfl rfl (by constructor) ?_
  refine gT rfl ?_
  refine aN rfl rfl (by constructor) ?_
  refine gT rfl ?_
  refine aN rfl rfl (by constructor) ?_
  refine gT rfl ?_
  refine aLd st 1 rfl rfl rfl (by constructor) ?_
  refine gT rfl ?_
  refine aN (v := .int .i64 48) rfl rfl (by constructor) ?_
  refine gT rfl ?_
  refine aBinV (.bool true) rfl rfl rfl ?_
  iterate 2 refine aN rfl rfl (by constructor) ?_
  refine gT rfl ?_
  refine aN rfl rfl (by constructor) ?_
  refine gT rfl ?_
  refine aN rfl rfl (by constructor) ?_
  refine gT rfl ?_
  refine aN rfl rfl (by constructor) ?_
  refine gT rfl ?_
  refine aLd st 1 rfl rfl rfl (by constructor) ?_
  refine gT rfl ?_
  refine aN rfl rfl (by constructor) ?_
  refine gT rfl ?_
  refine aLd st 2 rfl rfl (z_0 hz) (by constructor) ?_
  refine gT rfl ?_
  refine aBinV (.bool true) rfl rfl rfl ?_
  iterate 2 refine aN rfl rfl (by constructor) ?_
  refine gT rfl ?_
  refine aN rfl rfl (by constructor) ?_
  refine gT rfl ?_
  refine aN rfl rfl (by constructor) ?_
  refine gT rfl ?_
  refine aN rfl rfl (by constructor) ?_
  refine gT rfl ?_
  refine aLd st 1 rfl rfl rfl (by constructor) ?_
  refine gT rfl ?_
  refine aN rfl rfl (by constructor) ?_
  refine gT rfl ?_
  refine aLd st 2 rfl rfl (z_1 hz) (by constructor) ?_
  refine gT rfl ?_
  refine aN rfl rfl (by constructor) ?_
  refine gT rfl ?_
  refine aLd st 3 rfl rfl rfl (by constructor) ?_
  refine gT rfl ?_
  refine aBinV (.bool true) rfl rfl eq_int ?_
  iterate 2 refine aN rfl rfl (by constructor) ?_
  refine gT rfl ?_
  refine aN rfl rfl (by constructor) ?_
  refine gT rfl ?_
  refine aN rfl rfl (by constructor) ?_
  refine gT rfl ?_
  refine aN rfl rfl (by constructor) ?_
  refine gT rfl ?_
  refine aN rfl rfl (by constructor) ?_
  refine gT rfl ?_
  refine aLd st 1 rfl rfl rfl (by constructor) ?_
  refine gT rfl ?_
  refine aBinV (.bool true) rfl rfl rfl ?_
  iterate 2 refine aN rfl rfl (by constructor) ?_
  refine pE ?_
  refine ⟨_, out1 (r_tmp rfl (by constructor)), ?_⟩
  rfl
theorem u32_wf {n : Int} (h : (Lit.int .u32 n).wf = true) : B32 n := r32 h
theorem pdu_of {H : Hp} {B : Nat} {v : Value} (h : datV Try.prog H B 8 37 v) : ∃ (p : Pd) (x : Value), p.wf ∧ Sl H 1 p.data.length (p.data.map (Value.int .u8)) x ∧ v = .agg #[.int .u8 p.op, .int .u8 p.fl, .int .u8 p.res, .int .u8 p.st, .int .u8 p.lun, .int .u32 p.tag, .int .u32 p.w0, .int .u32 p.w1, .int .u32 p.w2, .int .u32 p.w3, .int .u32 p.w4, .int .u32 p.w5, .int .u32 p.w6, x] := by
  obtain ⟨us, rfl, h1⟩ := datV_row (by kernel_rfl) h
  have hl : us.length = 14 := dat_len (by kernel_rfl) (by kernel_rfl) h1
  obtain ⟨n0, e0, w0⟩ := dat_int (k := .u8) (by kernel_rfl) (dat_field (ft := 5) 0 0 1 (by kernel_rfl) (by kernel_rfl) (by kernel_rfl) h1)
  obtain ⟨n1, e1, w1⟩ := dat_int (k := .u8) (by kernel_rfl) (dat_field (ft := 5) 1 1 1 (by kernel_rfl) (by kernel_rfl) (by kernel_rfl) h1)
  obtain ⟨n2, e2, w2⟩ := dat_int (k := .u8) (by kernel_rfl) (dat_field (ft := 5) 2 2 1 (by kernel_rfl) (by kernel_rfl) (by kernel_rfl) h1)
  obtain ⟨n3, e3, w3⟩ := dat_int (k := .u8) (by kernel_rfl) (dat_field (ft := 5) 3 3 1 (by kernel_rfl) (by kernel_rfl) (by kernel_rfl) h1)
  obtain ⟨n4, e4, w4⟩ := dat_int (k := .u8) (by kernel_rfl) (dat_field (ft := 5) 4 4 1 (by kernel_rfl) (by kernel_rfl) (by kernel_rfl) h1)
  obtain ⟨n5, e5, w5⟩ := dat_int (k := .u32) (by kernel_rfl) (dat_field (ft := 22) 5 5 1 (by kernel_rfl) (by kernel_rfl) (by kernel_rfl) h1)
  obtain ⟨ws, e6, l6, w6⟩ := dat_intArr (e := 22) (n := 7) (k := .u32) (by kernel_rfl) (by kernel_rfl) (by kernel_rfl) (by kernel_rfl) (dat_field (ft := 35) 6 6 7 (by kernel_rfl) (by kernel_rfl) (by kernel_rfl) h1)
  have h7 := dat_field (ft := 23) 7 13 1 (by kernel_rfl) (by kernel_rfl) (by kernel_rfl) h1
  match us, hl with
  | [u0, u1, u2, u3, u4, u5, u6, u7, u8, u9, u10, u11, u12, u13], _ =>
    simp only [List.drop_zero, List.drop_succ_cons, List.take_succ_cons, List.take_zero] at e0 e1 e2 e3 e4 e5 e6 h7
    obtain ⟨ps, hx, hw, hb, _⟩ := dat_ints (e := 5) (k := .u8) (by kernel_rfl) (by kernel_rfl) (by kernel_rfl) h7
    rw [show Try.prog.bytesOf 5 = 1 by kernel_rfl, Nat.mul_one] at hb
    match ws, l6 with
    | [a, b, c, d, e, f, g], _ =>
      simp only [List.map_cons, List.map_nil, List.cons.injEq, and_true] at e0 e1 e2 e3 e4 e5 e6
      obtain ⟨q0, q1, q2, q3, q4, q5, q6⟩ := e6
      refine ⟨⟨n0, n1, n2, n3, n4, n5, a, b, c, d, e, f, g, ps⟩, u13, ⟨⟨r8 w0, r8 w1, r8 w2, r8 w3, r8 w4⟩, u32_wf w5, fun w hw => u32_wf (w6 w hw), wf_bytes hw, hb⟩, hx, ?_⟩
      rw [e0, e1, e2, e3, e4, e5, q0, q1, q2, q3, q4, q5, q6]
theorem args3 {P : Program} {H : Hp} {B D : Nat} {a b c : TypeId} {xs : List Value} (h : datArgs P H B D [a, b, c] xs) : ∃ x0 x1 x2, xs = [x0, x1, x2] ∧ datV P H B D a x0 ∧ datV P H B D b x1 ∧ datV P H B D c x2 := by
  match xs, h with
  | [x0, x1, x2], ⟨d0, d1, d2, _⟩ => exact ⟨x0, x1, x2, rfl, d0, d1, d2⟩
theorem sessWindow_law {H : Hp} {B : Nat} {xs : List Value} (hro : Ro H) (hd : datArgs Try.prog H B 8 [22, 22, 37] xs) : ACalls Try.prog 6 xs H fun v _ => v = .bool true := by
  obtain ⟨x0, x1, x2, rfl, d0, d1, d2⟩ := args3 hd
  obtain ⟨a, rfl, wa⟩ := arg_int (k := .u32) (by kernel_rfl) d0
  obtain ⟨b, rfl, wb⟩ := arg_int (k := .u32) (by kernel_rfl) d1
  obtain ⟨p, x, hp, hx, rfl⟩ := pdu_of d2
  exact window_call hp hx (r32 wa) (r32 wb)

end Go.Proofs.Ytloeadlmcdddnaa.Abs
