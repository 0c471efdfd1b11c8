/- SessPings. -/
import Derived.Test.YtloeadlmcdddnaaZ6
import Derived.Test.YtloeadlmcdddnaaZ7
set_option linter.unusedVariables false
set_option linter.unusedSimpArgs false
set_option maxRecDepth 100000
namespace Go.Proofs.Ytloeadlmcdddnaa.Abs
open Go Go.RowKit
theorem pings_fn {H : Hp} {tag lun : Int} {x : Value} {k : List Int} (hx : Sl H 1 k.length (k.map (Value.int .u8)) x) (hb : ByteL k) (ht : tag ≠ 4294967295) :
  ACalls Try.prog 4 [x, .int .u32 tag, .bool false, .int .u8 lun] H (fun v _ => v = .bool true) := by
 refine acallsW Try.func4 f4_ok (Nat.le_of_ble_eq_true rfl) fun hw => ?_
 have st : Stt [] H H [] := Stt.start hw
 obtain ⟨px, cx, rfl⟩ := hx.shape
 unfold f4c
 show AWl _ _ _ _ _
 refine aN rfl rfl (by constructor) ?_
 refine sE ?_
 show AWl _ _ _ _ _
 refine aC (awake_call) fun v14 H1 ⟨hv, st1⟩ => ?_
 subst hv
 replace st := st.call st1 rfl
 clear st1
 iterate 2 refine aN rfl rfl (by constructor) ?_
 refine gT rfl ?_
 refine aMovV (Value.slice px k.length cx) rfl ?_
 refine gT rfl ?_
 refine aLen (st.slc hx) rfl ?_
 refine gT rfl ?_
 iterate 2 refine aN rfl rfl (by constructor) ?_
 refine sE ?_
 show AW _ (.cond _ _ _) _ _ _
 refine cC' rfl (fun h2 => ?_) (fun h2 => ?_)
 ·show AWl _ _ _ _ _
  refine aC (awake_call) fun v21 H3 ⟨hv, st1⟩ => ?_
  subst hv
  replace st := st.call st1 rfl
  clear st1
  refine aN rfl rfl (by constructor) ?_
  refine sE ?_
  refine ⟨_, out1 (r_tmp rfl (by constructor)), ?_⟩
  rfl
 ·show AWl _ _ _ _ _
  refine aC (plain_call) fun v22 H4 ⟨hv, st1⟩ => ?_
  subst hv
  replace st := st.call st1 rfl
  clear st1
  refine aC (new_call) fun v23 H5 ⟨b23, hv, st1⟩ => ?_
  subst hv
  replace st := st.call st1 rfl
  clear st1
  refine aN rfl rfl (by constructor) ?_
  refine sE ?_
  show AWl _ _ _ _ _
  iterate 2 refine aN rfl rfl (by constructor) ?_
  refine aMovV (Value.slice px k.length cx) rfl ?_
  refine aBld rfl (by repeat constructor) ?_
  refine aBldA rfl (by repeat constructor) ?_
  refine aNewP st rfl rfl (by repeat constructor) fun b10 H6 st => ?_
  refine aSt st 0 rfl rfl rfl rfl (by first | rfl | simp [cellsOf, *]) (by first | decide | (simp [*]; done) | (simp [k8]; done)) (by repeat constructor) fun H7 st => ?_
  refine sE ?_
  show AWl _ _ _ _ _
  refine aN rfl rfl (by constructor) ?_
  refine sE ?_
  show AW _ (.cond _ _ _) _ _ _
  refine cF' rfl ?_
  show AWl _ _ _ _ _
  refine aN rfl rfl (by constructor) ?_
  refine aLdA st 0 rfl rfl (by first | decide | simp [*]) (by repeat constructor) ?_
  refine aC (in_ping0 (st.get (j := 1) rfl) (st.slc hx) (st.apart (j := 1) rfl hx) ht) fun v34 H8 ⟨c34, hv, st1⟩ => ?_
  subst hv
  replace st := st.callX 1 rfl st1 rfl
  clear st1
  iterate 5 refine aN rfl rfl (by constructor) ?_
  refine sE ?_
  show AWl _ _ _ _ _
  refine aN rfl rfl (by constructor) ?_
  refine sE ?_
  show AWl _ _ _ _ _
  refine aN rfl rfl (by constructor) ?_
  refine sE ?_
  show AW _ (.cond _ _ _) _ _ _
  refine cF' rfl ?_
  show AWl _ _ _ _ _
  refine aN rfl rfl (by constructor) ?_
  refine aN (v := .int .i64 0) rfl rfl (by constructor) ?_
  refine aBinV (.bool false) rfl rfl rfl ?_
  refine aN rfl rfl (by constructor) ?_
  refine gT rfl ?_
  refine aN rfl rfl (by constructor) ?_
  refine gT rfl ?_
  refine aC (next_call (st.get (j := 0) rfl)) fun v43 H9 ⟨hv, st1⟩ => ?_
  subst hv
  replace st := st.call st1 rfl
  clear st1
  refine gT rfl ?_
  refine aN rfl rfl (by constructor) ?_
  refine gT rfl ?_
  refine aBinV (.bool false) rfl rfl rfl ?_
  refine aN rfl rfl (by constructor) ?_
  refine sE ?_
  show AW _ (.cond _ _ _) _ _ _
  refine cF' rfl ?_
  show AWl _ _ _ _ _
  refine aN rfl rfl (by constructor) ?_
  refine aBinV (.bool false) rfl rfl (by exact congrArg (fun q => some (Value.bool q)) (beq_eq_false_iff_ne.2 ht)) ?_
  refine sE ?_
  show AW _ (.cond _ _ _) _ _ _
  refine cF' rfl ?_
  show AWp _ _ _ _ _
  refine aN rfl rfl (by constructor) ?_
  refine aN (v := .int .i64 1) rfl rfl (by constructor) ?_
  refine aBinV (.bool true) rfl rfl rfl ?_
  refine aN rfl rfl (by constructor) ?_
  refine gT rfl ?_
  refine aN rfl rfl (by constructor) ?_
  refine gT rfl ?_
  refine aN rfl rfl (by constructor) ?_
  refine gT rfl ?_
  refine aN rfl rfl (by constructor) ?_
  refine gT rfl ?_
  refine aLd st 1 rfl rfl rfl (by constructor) ?_
  refine gT rfl ?_
  refine aBinV (.bool true) rfl rfl rfl ?_
  iterate 2 refine aN rfl rfl (by constructor) ?_
  refine gT rfl ?_
  refine aN rfl rfl (by constructor) ?_
  refine gT rfl ?_
  refine aN rfl rfl (by constructor) ?_
  refine gT rfl ?_
  refine aN rfl rfl (by constructor) ?_
  refine gT rfl ?_
  refine aLd st 1 rfl rfl rfl (by constructor) ?_
  refine gT rfl ?_
  refine aN rfl rfl (by constructor) ?_
  refine gT rfl ?_
  refine aBinV (.bool true) rfl rfl eq_int ?_
  iterate 2 refine aN rfl rfl (by constructor) ?_
  refine gT rfl ?_
  refine aN rfl rfl (by constructor) ?_
  refine gT rfl ?_
  refine aN rfl rfl (by constructor) ?_
  refine gT rfl ?_
  refine aN rfl rfl (by constructor) ?_
  refine gT rfl ?_
  refine aLd st 1 rfl rfl rfl (by constructor) ?_
  refine gT rfl ?_
  refine aN rfl rfl (by constructor) ?_
  refine gT rfl ?_
  refine aBinV (.bool true) rfl rfl eq_int ?_
  iterate 2 refine aN rfl rfl (by constructor) ?_
  refine gT rfl ?_
  refine aN rfl rfl (by constructor) ?_
  refine gT rfl ?_
  refine aN rfl rfl (by constructor) ?_
  refine gT rfl ?_
  refine aN rfl rfl (by constructor) ?_
  refine gT rfl ?_
  refine aLdQ st 1 rfl rfl rfl (rfl : (Value.slice px k.length cx) = _) ?_
  refine gT rfl ?_
  refine aText (st.slc hx) rfl ?_
  refine gT rfl ?_
  refine aMovV (Value.slice px k.length cx) rfl ?_
  refine gT rfl ?_
  refine aText (st.slc hx) rfl ?_
  refine gT rfl ?_
  refine aEqSS rfl rfl ?_
  iterate 2 refine aN rfl rfl (by constructor) ?_
  refine gT rfl ?_
  refine aN rfl rfl (by constructor) ?_
  refine gT rfl ?_
  refine aN rfl rfl (by constructor) ?_
  refine gT rfl ?_
  refine aN rfl rfl (by constructor) ?_
  refine gT rfl ?_
  refine aN rfl rfl (by constructor) ?_
  refine gT rfl ?_
  refine aLd st 1 rfl rfl rfl (by constructor) ?_
  refine gT rfl ?_
  refine aBinV (.bool true) rfl rfl rfl ?_
  iterate 2 refine aN rfl rfl (by constructor) ?_
  refine pE ?_
  refine ⟨_, out1 (r_tmp rfl (by constructor)), ?_⟩
  rfl
theorem pings_ff {H : Hp} {tag lun : Int} {x : Value} {k : List Int} (hx : Sl H 1 k.length (k.map (Value.int .u8)) x) (hb : ByteL k) :
  ACalls Try.prog 4 [x, .int .u32 4294967295, .bool false, .int .u8 lun] H (fun v _ => v = .bool true) := by
 refine acallsW Try.func4 f4_ok (Nat.le_of_ble_eq_true rfl) fun hw => ?_
 have st : Stt [] H H [] := Stt.start hw
 obtain ⟨px, cx, rfl⟩ := hx.shape
 unfold f4c
 show AWl _ _ _ _ _
 refine aN rfl rfl (by constructor) ?_
 refine sE ?_
 show AWl _ _ _ _ _
 refine aC (awake_call) fun v14 H1 ⟨hv, st1⟩ => ?_
 subst hv
 replace st := st.call st1 rfl
 clear st1
 iterate 2 refine aN rfl rfl (by constructor) ?_
 refine gT rfl ?_
 refine aMovV (Value.slice px k.length cx) rfl ?_
 refine gT rfl ?_
 refine aLen (st.slc hx) rfl ?_
 refine gT rfl ?_
 iterate 2 refine aN rfl rfl (by constructor) ?_
 refine sE ?_
 show AW _ (.cond _ _ _) _ _ _
 refine cC' rfl (fun h2 => ?_) (fun h2 => ?_)
 ·show AWl _ _ _ _ _
  refine aC (awake_call) fun v21 H3 ⟨hv, st1⟩ => ?_
  subst hv
  replace st := st.call st1 rfl
  clear st1
  refine aN rfl rfl (by constructor) ?_
  refine sE ?_
  refine ⟨_, out1 (r_tmp rfl (by constructor)), ?_⟩
  rfl
 ·show AWl _ _ _ _ _
  refine aC (plain_call) fun v22 H4 ⟨hv, st1⟩ => ?_
  subst hv
  replace st := st.call st1 rfl
  clear st1
  refine aC (new_call) fun v23 H5 ⟨b23, hv, st1⟩ => ?_
  subst hv
  replace st := st.call st1 rfl
  clear st1
  refine aN rfl rfl (by constructor) ?_
  refine sE ?_
  show AWl _ _ _ _ _
  iterate 2 refine aN rfl rfl (by constructor) ?_
  refine aMovV (Value.slice px k.length cx) rfl ?_
  refine aBld rfl (by repeat constructor) ?_
  refine aBldA rfl (by repeat constructor) ?_
  refine aNewP st rfl rfl (by repeat constructor) fun b10 H6 st => ?_
  refine aSt st 0 rfl rfl rfl rfl (by first | rfl | simp [cellsOf, *]) (by first | decide | (simp [*]; done) | (simp [k8]; done)) (by repeat constructor) fun H7 st => ?_
  refine sE ?_
  show AWl _ _ _ _ _
  refine aN rfl rfl (by constructor) ?_
  refine sE ?_
  show AW _ (.cond _ _ _) _ _ _
  refine cF' rfl ?_
  show AWl _ _ _ _ _
  refine aN rfl rfl (by constructor) ?_
  refine aLdA st 0 rfl rfl (by first | decide | simp [*]) (by repeat constructor) ?_
  refine aC (in_ping0f (tag := 0) (st.get (j := 1) rfl) (st.slc hx) (st.apart (j := 1) rfl hx)) fun v34 H8 ⟨hv, st1⟩ => ?_
  subst hv
  replace st := st.callX 1 rfl st1 rfl
  clear st1
  iterate 5 refine aN rfl rfl (by constructor) ?_
  refine sE ?_
  show AWl _ _ _ _ _
  refine aN rfl rfl (by constructor) ?_
  refine sE ?_
  show AWl _ _ _ _ _
  refine aN rfl rfl (by constructor) ?_
  refine sE ?_
  show AW _ (.cond _ _ _) _ _ _
  refine cF' rfl ?_
  show AWl _ _ _ _ _
  refine aN rfl rfl (by constructor) ?_
  refine aN (v := .int .i64 0) rfl rfl (by constructor) ?_
  refine aBinV (.bool false) rfl rfl rfl ?_
  refine aN rfl rfl (by constructor) ?_
  refine gT rfl ?_
  refine aN rfl rfl (by constructor) ?_
  refine gT rfl ?_
  refine aC (next_call (st.get (j := 0) rfl)) fun v43 H9 ⟨hv, st1⟩ => ?_
  subst hv
  replace st := st.call st1 rfl
  clear st1
  refine gT rfl ?_
  refine aN rfl rfl (by constructor) ?_
  refine gT rfl ?_
  refine aBinV (.bool false) rfl rfl rfl ?_
  refine aN rfl rfl (by constructor) ?_
  refine sE ?_
  show AW _ (.cond _ _ _) _ _ _
  refine cF' rfl ?_
  show AWl _ _ _ _ _
  refine aN rfl rfl (by constructor) ?_
  refine aBinV (.bool true) rfl rfl (rfl) ?_
  refine sE ?_
  show AW _ (.cond _ _ _) _ _ _
  refine cT rfl ?_
  show AWl _ _ _ _ _
  refine aN rfl rfl (by constructor) ?_
  refine aN (v := .int .i64 0) rfl rfl (by constructor) ?_
  refine aBinV (.bool true) rfl rfl rfl ?_
  refine aN rfl rfl (by constructor) ?_
  refine sE ?_
  refine ⟨_, out1 (r_tmp rfl (by constructor)), ?_⟩
  rfl
theorem pings_tn {H : Hp} {tag lun : Int} {x : Value} {k : List Int} (hx : Sl H 1 k.length (k.map (Value.int .u8)) x) (hb : ByteL k) (ht : tag ≠ 4294967295) :
  ACalls Try.prog 4 [x, .int .u32 tag, .bool true, .int .u8 lun] H (fun v _ => v = .bool true) := by
 refine acallsW Try.func4 f4_ok (Nat.le_of_ble_eq_true rfl) fun hw => ?_
 have st : Stt [] H H [] := Stt.start hw
 obtain ⟨px, cx, rfl⟩ := hx.shape
 unfold f4c
 show AWl _ _ _ _ _
 refine aN rfl rfl (by constructor) ?_
 refine sE ?_
 show AWl _ _ _ _ _
 refine aC (awake_call) fun v14 H1 ⟨hv, st1⟩ => ?_
 subst hv
 replace st := st.call st1 rfl
 clear st1
 iterate 2 refine aN rfl rfl (by constructor) ?_
 refine gT rfl ?_
 refine aMovV (Value.slice px k.length cx) rfl ?_
 refine gT rfl ?_
 refine aLen (st.slc hx) rfl ?_
 refine gT rfl ?_
 iterate 2 refine aN rfl rfl (by constructor) ?_
 refine sE ?_
 show AW _ (.cond _ _ _) _ _ _
 refine cC' rfl (fun h2 => ?_) (fun h2 => ?_)
 ·show AWl _ _ _ _ _
  refine aC (awake_call) fun v21 H3 ⟨hv, st1⟩ => ?_
  subst hv
  replace st := st.call st1 rfl
  clear st1
  refine aN rfl rfl (by constructor) ?_
  refine sE ?_
  refine ⟨_, out1 (r_tmp rfl (by constructor)), ?_⟩
  rfl
 ·show AWl _ _ _ _ _
  refine aC (plain_call) fun v22 H4 ⟨hv, st1⟩ => ?_
  subst hv
  replace st := st.call st1 rfl
  clear st1
  refine aC (new_call) fun v23 H5 ⟨b23, hv, st1⟩ => ?_
  subst hv
  replace st := st.call st1 rfl
  clear st1
  refine aN rfl rfl (by constructor) ?_
  refine sE ?_
  show AWl _ _ _ _ _
  iterate 2 refine aN rfl rfl (by constructor) ?_
  refine aMovV (Value.slice px k.length cx) rfl ?_
  refine aBld rfl (by repeat constructor) ?_
  refine aBldA rfl (by repeat constructor) ?_
  refine aNewP st rfl rfl (by repeat constructor) fun b10 H6 st => ?_
  refine aSt st 0 rfl rfl rfl rfl (by first | rfl | simp [cellsOf, *]) (by first | decide | (simp [*]; done) | (simp [k8]; done)) (by repeat constructor) fun H7 st => ?_
  refine sE ?_
  show AWl _ _ _ _ _
  refine aN rfl rfl (by constructor) ?_
  refine sE ?_
  show AW _ (.cond _ _ _) _ _ _
  refine cT rfl ?_
  show AWl _ _ _ _ _
  refine aN rfl rfl (by constructor) ?_
  refine aSt st 0 rfl rfl rfl rfl (by first | rfl | simp [cellsOf, *]) (by first | decide | (simp [*]; done) | (simp [k8]; done)) (by repeat constructor) fun H8 st => ?_
  refine sE ?_
  show AWl _ _ _ _ _
  refine aN rfl rfl (by constructor) ?_
  refine aLdA st 0 rfl rfl (by first | decide | simp [*]) (by repeat constructor) ?_
  refine aC (in_ping64 (st.get (j := 1) rfl) (st.slc hx) (st.apart (j := 1) rfl hx) ht) fun v34 H9 ⟨c34, hv, st1⟩ => ?_
  subst hv
  replace st := st.callX 1 rfl st1 rfl
  clear st1
  iterate 5 refine aN rfl rfl (by constructor) ?_
  refine sE ?_
  show AWl _ _ _ _ _
  refine aN rfl rfl (by constructor) ?_
  refine sE ?_
  show AWl _ _ _ _ _
  refine aN rfl rfl (by constructor) ?_
  refine sE ?_
  show AW _ (.cond _ _ _) _ _ _
  refine cT rfl ?_
  show AWl _ _ _ _ _
  refine aN rfl rfl (by constructor) ?_
  refine sE ?_
  show AWl _ _ _ _ _
  refine aN rfl rfl (by constructor) ?_
  refine aN (v := .int .i64 0) rfl rfl (by constructor) ?_
  refine aBinV (.bool false) rfl rfl rfl ?_
  refine aN rfl rfl (by constructor) ?_
  refine gT rfl ?_
  refine aN rfl rfl (by constructor) ?_
  refine gT rfl ?_
  refine aC (next_call (st.get (j := 0) rfl)) fun v43 H10 ⟨hv, st1⟩ => ?_
  subst hv
  replace st := st.call st1 rfl
  clear st1
  refine gT rfl ?_
  refine aN rfl rfl (by constructor) ?_
  refine gT rfl ?_
  refine aBinV (.bool false) rfl rfl rfl ?_
  refine aN rfl rfl (by constructor) ?_
  refine sE ?_
  show AW _ (.cond _ _ _) _ _ _
  refine cF' rfl ?_
  show AWl _ _ _ _ _
  refine aN rfl rfl (by constructor) ?_
  refine aBinV (.bool false) rfl rfl (by exact congrArg (fun q => some (Value.bool q)) (beq_eq_false_iff_ne.2 ht)) ?_
  refine sE ?_
  show AW _ (.cond _ _ _) _ _ _
  refine cF' rfl ?_
  show AWp _ _ _ _ _
  refine aN rfl rfl (by constructor) ?_
  refine aN (v := .int .i64 1) rfl rfl (by constructor) ?_
  refine aBinV (.bool true) rfl rfl rfl ?_
  refine aN rfl rfl (by constructor) ?_
  refine gT rfl ?_
  refine aN rfl rfl (by constructor) ?_
  refine gT rfl ?_
  refine aN rfl rfl (by constructor) ?_
  refine gT rfl ?_
  refine aN rfl rfl (by constructor) ?_
  refine gT rfl ?_
  refine aLd st 1 rfl rfl rfl (by constructor) ?_
  refine gT rfl ?_
  refine aBinV (.bool true) rfl rfl rfl ?_
  iterate 2 refine aN rfl rfl (by constructor) ?_
  refine gT rfl ?_
  refine aN rfl rfl (by constructor) ?_
  refine gT rfl ?_
  refine aN rfl rfl (by constructor) ?_
  refine gT rfl ?_
  refine aN rfl rfl (by constructor) ?_
  refine gT rfl ?_
  refine aLd st 1 rfl rfl rfl (by constructor) ?_
  refine gT rfl ?_
  refine aN rfl rfl (by constructor) ?_
  refine gT rfl ?_
  refine aBinV (.bool true) rfl rfl eq_int ?_
  iterate 2 refine aN rfl rfl (by constructor) ?_
  refine gT rfl ?_
  refine aN rfl rfl (by constructor) ?_
  refine gT rfl ?_
  refine aN rfl rfl (by constructor) ?_
  refine gT rfl ?_
  refine aN rfl rfl (by constructor) ?_
  refine gT rfl ?_
  refine aLd st 1 rfl rfl rfl (by constructor) ?_
  refine gT rfl ?_
  refine aN rfl rfl (by constructor) ?_
  refine gT rfl ?_
  refine aBinV (.bool true) rfl rfl eq_int ?_
  iterate 2 refine aN rfl rfl (by constructor) ?_
  refine gT rfl ?_
  refine aN rfl rfl (by constructor) ?_
  refine gT rfl ?_
  refine aN rfl rfl (by constructor) ?_
  refine gT rfl ?_
  refine aN rfl rfl (by constructor) ?_
  refine gT rfl ?_
  refine aLdQ st 1 rfl rfl rfl (rfl : (Value.slice px k.length cx) = _) ?_
  refine gT rfl ?_
  refine aText (st.slc hx) rfl ?_
  refine gT rfl ?_
  refine aMovV (Value.slice px k.length cx) rfl ?_
  refine gT rfl ?_
  refine aText (st.slc hx) rfl ?_
  refine gT rfl ?_
  refine aEqSS rfl rfl ?_
  iterate 2 refine aN rfl rfl (by constructor) ?_
  refine gT rfl ?_
  refine aN rfl rfl (by constructor) ?_
  refine gT rfl ?_
  refine aN rfl rfl (by constructor) ?_
  refine gT rfl ?_
  refine aN rfl rfl (by constructor) ?_
  refine gT rfl ?_
  refine aN rfl rfl (by constructor) ?_
  refine gT rfl ?_
  refine aLd st 1 rfl rfl rfl (by constructor) ?_
  refine gT rfl ?_
  refine aBinV (.bool true) rfl rfl rfl ?_
  iterate 2 refine aN rfl rfl (by constructor) ?_
  refine pE ?_
  refine ⟨_, out1 (r_tmp rfl (by constructor)), ?_⟩
  rfl
theorem pings_tf {H : Hp} {tag lun : Int} {x : Value} {k : List Int} (hx : Sl H 1 k.length (k.map (Value.int .u8)) x) (hb : ByteL k) :
  ACalls Try.prog 4 [x, .int .u32 4294967295, .bool true, .int .u8 lun] H (fun v _ => v = .bool true) := by
 refine acallsW Try.func4 f4_ok (Nat.le_of_ble_eq_true rfl) fun hw => ?_
 have st : Stt [] H H [] := Stt.start hw
 obtain ⟨px, cx, rfl⟩ := hx.shape
 unfold f4c
 show AWl _ _ _ _ _
 refine aN rfl rfl (by constructor) ?_
 refine sE ?_
 show AWl _ _ _ _ _
 refine aC (awake_call) fun v14 H1 ⟨hv, st1⟩ => ?_
 subst hv
 replace st := st.call st1 rfl
 clear st1
 iterate 2 refine aN rfl rfl (by constructor) ?_
 refine gT rfl ?_
 refine aMovV (Value.slice px k.length cx) rfl ?_
 refine gT rfl ?_
 refine aLen (st.slc hx) rfl ?_
 refine gT rfl ?_
 iterate 2 refine aN rfl rfl (by constructor) ?_
 refine sE ?_
 show AW _ (.cond _ _ _) _ _ _
 refine cC' rfl (fun h2 => ?_) (fun h2 => ?_)
 ·show AWl _ _ _ _ _
  refine aC (awake_call) fun v21 H3 ⟨hv, st1⟩ => ?_
  subst hv
  replace st := st.call st1 rfl
  clear st1
  refine aN rfl rfl (by constructor) ?_
  refine sE ?_
  refine ⟨_, out1 (r_tmp rfl (by constructor)), ?_⟩
  rfl
 ·show AWl _ _ _ _ _
  refine aC (plain_call) fun v22 H4 ⟨hv, st1⟩ => ?_
  subst hv
  replace st := st.call st1 rfl
  clear st1
  refine aC (new_call) fun v23 H5 ⟨b23, hv, st1⟩ => ?_
  subst hv
  replace st := st.call st1 rfl
  clear st1
  refine aN rfl rfl (by constructor) ?_
  refine sE ?_
  show AWl _ _ _ _ _
  iterate 2 refine aN rfl rfl (by constructor) ?_
  refine aMovV (Value.slice px k.length cx) rfl ?_
  refine aBld rfl (by repeat constructor) ?_
  refine aBldA rfl (by repeat constructor) ?_
  refine aNewP st rfl rfl (by repeat constructor) fun b10 H6 st => ?_
  refine aSt st 0 rfl rfl rfl rfl (by first | rfl | simp [cellsOf, *]) (by first | decide | (simp [*]; done) | (simp [k8]; done)) (by repeat constructor) fun H7 st => ?_
  refine sE ?_
  show AWl _ _ _ _ _
  refine aN rfl rfl (by constructor) ?_
  refine sE ?_
  show AW _ (.cond _ _ _) _ _ _
  refine cT rfl ?_
  show AWl _ _ _ _ _
  refine aN rfl rfl (by constructor) ?_
  refine aSt st 0 rfl rfl rfl rfl (by first | rfl | simp [cellsOf, *]) (by first | decide | (simp [*]; done) | (simp [k8]; done)) (by repeat constructor) fun H8 st => ?_
  refine sE ?_
  show AWl _ _ _ _ _
  refine aN rfl rfl (by constructor) ?_
  refine aLdA st 0 rfl rfl (by first | decide | simp [*]) (by repeat constructor) ?_
  refine aC (in_ping64f (tag := 0) (st.get (j := 1) rfl) (st.slc hx) (st.apart (j := 1) rfl hx)) fun v34 H9 ⟨hv, st1⟩ => ?_
  subst hv
  replace st := st.callX 1 rfl st1 rfl
  clear st1
  iterate 5 refine aN rfl rfl (by constructor) ?_
  refine sE ?_
  show AWl _ _ _ _ _
  refine aN rfl rfl (by constructor) ?_
  refine sE ?_
  show AWl _ _ _ _ _
  refine aN rfl rfl (by constructor) ?_
  refine sE ?_
  show AW _ (.cond _ _ _) _ _ _
  refine cT rfl ?_
  show AWl _ _ _ _ _
  refine aN rfl rfl (by constructor) ?_
  refine sE ?_
  show AWl _ _ _ _ _
  refine aN rfl rfl (by constructor) ?_
  refine aN (v := .int .i64 0) rfl rfl (by constructor) ?_
  refine aBinV (.bool false) rfl rfl rfl ?_
  refine aN rfl rfl (by constructor) ?_
  refine gT rfl ?_
  refine aN rfl rfl (by constructor) ?_
  refine gT rfl ?_
  refine aC (next_call (st.get (j := 0) rfl)) fun v43 H10 ⟨hv, st1⟩ => ?_
  subst hv
  replace st := st.call st1 rfl
  clear st1
  refine gT rfl ?_
  refine aN rfl rfl (by constructor) ?_
  refine gT rfl ?_
  refine aBinV (.bool false) rfl rfl rfl ?_
  refine aN rfl rfl (by constructor) ?_
  refine sE ?_
  show AW _ (.cond _ _ _) _ _ _
  refine cF' rfl ?_
  show AWl _ _ _ _ _
  refine aN rfl rfl (by constructor) ?_
  refine aBinV (.bool true) rfl rfl (rfl) ?_
  refine sE ?_
  show AW _ (.cond _ _ _) _ _ _
  refine cT rfl ?_
  show AWl _ _ _ _ _
  refine aN rfl rfl (by constructor) ?_
  refine aN (v := .int .i64 0) rfl rfl (by constructor) ?_
  refine aBinV (.bool true) rfl rfl rfl ?_
  refine aN rfl rfl (by constructor) ?_
  refine sE ?_
  refine ⟨_, out1 (r_tmp rfl (by constructor)), ?_⟩
  rfl
theorem args4 {P : Program} {H : Hp} {B D : Nat} {a b c d : TypeId} {xs : List Value} (h : datArgs P H B D [a, b, c, d] xs) : ∃ x0 x1 x2 x3, xs = [x0, x1, x2, x3] ∧ datV P H B D a x0 ∧ datV P H B D b x1 ∧ datV P H B D c x2 ∧ datV P H B D d x3 := by
  match xs, h with
  | [x0, x1, x2, x3], ⟨d0, d1, d2, d3, _⟩ => exact ⟨x0, x1, x2, x3, rfl, d0, d1, d2, d3⟩
theorem sessPings_law {H : Hp} {B : Nat} {xs : List Value} (hro : Ro H) (hd : datArgs Try.prog H B 8 [23, 22, 4, 5] xs) : ACalls Try.prog 4 xs H fun v _ => v = .bool true := by
  obtain ⟨x0, x1, x2, x3, rfl, d0, d1, d2, d3⟩ := args4 hd
  obtain ⟨k, hx, wk, lk, _⟩ := arg_ints (e := 5) (k := .u8) (by kernel_rfl) (by kernel_rfl) (by kernel_rfl) d0
  obtain ⟨tag, rfl, wt⟩ := arg_int (k := .u32) (by kernel_rfl) d1
  obtain ⟨now, rfl⟩ := arg_bool (by kernel_rfl) d2
  obtain ⟨lun, rfl, wl⟩ := arg_int (k := .u8) (by kernel_rfl) d3
  by_cases ht : tag = 4294967295
  · subst ht
    cases now
    · exact pings_ff (tag := 0) hx (wf_bytes wk)
    · exact pings_tf (tag := 0) hx (wf_bytes wk)
  · cases now
    · exact pings_fn hx (wf_bytes wk) ht
    · exact pings_tn hx (wf_bytes wk) ht

end Go.Proofs.Ytloeadlmcdddnaa.Abs
