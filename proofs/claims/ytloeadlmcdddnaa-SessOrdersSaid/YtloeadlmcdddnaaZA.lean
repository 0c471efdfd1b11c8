/- Sessions: what is refused. -/
import Derived.Test.YtloeadlmcdddnaaZ9
import Derived.Test.YtloeadlmcdddnaaU1
set_option linter.unusedVariables false
set_option linter.unusedSimpArgs false
set_option maxRecDepth 100000
namespace Go.Proofs.Ytloeadlmcdddnaa.Abs
open Go Go.RowKit
variable {tg sg bu : Int}
theorem sl_nil' {H : Hp} : Sl H 1 0 [] (.slice none 0 0) := ⟨by simp, .inl ⟨rfl, .inl rfl⟩⟩
theorem acc_apart {ob : Option Nat} {b n : Nat} (h : ob ≠ some b) : Apart b (accV ob n 1) := by
  intro c o n' m e hn hc
  subst hc
  cases ob with
  | none => cases e
  | some c' =>
    have e : Value.slice (some ⟨c', 0, none⟩) n 1 = .slice (some ⟨c, o, none⟩) n' m := e
    injection e with e1
    injection e1 with e1
    injection e1 with e1
    exact h (by rw [e1])
theorem wf0 {p : Pd} (hp : p.wf) : ({ p with data := [] } : Pd).wf := ⟨hp.1, hp.2.1, hp.2.2.1, ByteL.nil, Nat.zero_le _⟩
theorem enc0 {p : Pd} (hp : p.wf) : (encR ({ p with data := [] } : Pd) false false).length = 48 ∧ (encR ({ p with data := [] } : Pd) false false).getD 0 0 = p.op ∧ (encR ({ p with data := [] } : Pd) false false).getD 1 0 = p.fl ∧ ByteL (encR ({ p with data := [] } : Pd) false false) := by
  have e : encR ({ p with data := [] } : Pd) false false = headL ({ p with data := [] } : Pd) 7 := by simp [encR, encB, hdrL, bodyL, padN]
  rw [e]
  exact ⟨headL_len _ (Nat.le_refl 7), rfl, rfl, headL_bytes (wf0 hp) 7⟩
theorem put0 {ys : List Int} (hl : ys.length = 48) (v : Int) : (ys.take (5 : Int).toNat ++ beB (3 : Int).toNat v ++ ys.drop ((5 : Int).toNat + (3 : Int).toNat)).length = 48 ∧ (ys.take (5 : Int).toNat ++ beB (3 : Int).toNat v ++ ys.drop ((5 : Int).toNat + (3 : Int).toNat)).getD 0 0 = ys.getD 0 0 ∧ (ys.take (5 : Int).toNat ++ beB (3 : Int).toNat v ++ ys.drop ((5 : Int).toNat + (3 : Int).toNat)).getD 1 0 = ys.getD 1 0 := by
  match ys, hl with
  | a :: b :: c :: d :: e :: f :: g :: h :: t, hl =>
    refine ⟨?_, rfl, rfl⟩
    simp only [List.length_cons] at hl
    simp [beB_len]
    omega
theorem numbered2_call {H : Hp} {b : Nat} {cmd stat op fl res lun tag : Int} {hd wr rd x : Value} {ov : Bool} {k : List Int} (hk : H.m b = some ⟨true, 64, [.string ⟨#[]⟩, .string ⟨#[116]⟩, .bool false, .bool false, .bool false, .int .i64 sg, .int .i64 bu, .int .i64 65536, .bool true, .bool true, .slice none 0 0, .int .u32 cmd, .int .u32 stat, .int .u32 tg, hd, wr, .bool ov, rd]⟩) (hx : Sl H 1 k.length (k.map (Value.int .u8)) x) (hap : Apart b x) :
  ACalls Try.prog 26 [.pointer (some ⟨b, 0, none⟩), .agg #[.int .u8 op, .int .u8 fl, .int .u8 res, .int .u8 0, .int .u8 lun, .int .u32 tag, .int .u32 0, .int .u32 0, .int .u32 0, .int .u32 0, .int .u32 0, .int .u32 0, .int .u32 0, x], .bool true] H (fun v H' => v = .agg #[.int .u8 op, .int .u8 fl, .int .u8 res, .int .u8 0, .int .u8 lun, .int .u32 tag, .int .u32 0, .int .u32 stat, .int .u32 cmd, .int .u32 (IntKind.u32.wrap (IntKind.u32.wrap (cmd + 16) - 1)), .int .u32 0, .int .u32 0, .int .u32 0, x] ∧ Stt [b] H H' [⟨some b, true, ⟨true, 64, [.string ⟨#[]⟩, .string ⟨#[116]⟩, .bool false, .bool false, .bool false, .int .i64 sg, .int .i64 bu, .int .i64 65536, .bool true, .bool true, .slice none 0 0, .int .u32 cmd, .int .u32 (IntKind.u32.wrap (stat + 1)), .int .u32 tg, hd, wr, .bool ov, rd]⟩⟩]) := by
 refine acallsW Try.func26 f26_ok (Nat.le_of_ble_eq_true rfl) fun hw => ?_
 have st : Stt [b] H H [] := Stt.start hw
 replace st := st.mine hk rfl (by simp) (by simp)
 unfold f26c
 show AWl _ _ _ _ _
 refine aBoxN st rfl rfl (by repeat constructor) rfl fun b4 H1 st => ?_
 refine aNewP st rfl rfl (by repeat constructor) fun b6 H2 st => ?_
 refine sE ?_
 show AWp _ _ _ _ _
 iterate 3 refine aN rfl rfl (by constructor) ?_
 refine aLd st 2 rfl rfl rfl (by constructor) ?_
 iterate 3 refine aN rfl rfl (by constructor) ?_
 refine aLd st 2 rfl rfl rfl (by constructor) ?_
 iterate 3 refine aN rfl rfl (by constructor) ?_
 refine aLd st 2 rfl rfl rfl (by constructor) ?_
 iterate 6 refine aN rfl rfl (by constructor) ?_
 refine ⟨?_, trivial⟩
 refine aSt st 1 rfl rfl rfl rfl (by first | rfl | simp [cellsOf, *]) (by first | decide | (simp [*]; done) | (simp [k8]; done)) (by repeat constructor) fun H3 st => ?_
 refine ⟨⟨(h_Ld st 2 rfl rfl rfl (by constructor)), (h_Ld st 2 rfl rfl rfl (by constructor)), trivial⟩, ?_⟩
 refine aN rfl rfl (by constructor) ?_
 refine ⟨?_, trivial⟩
 refine aSt st 1 rfl rfl rfl rfl (by first | rfl | simp [cellsOf, *]) (by first | decide | (simp [*]; done) | (simp [k8]; done)) (by repeat constructor) fun H4 st => ?_
 refine ⟨⟨(h_Ld st 2 rfl rfl rfl (by constructor)), trivial⟩, ?_⟩
 refine aN rfl rfl (by constructor) ?_
 refine ⟨?_, trivial⟩
 refine aSt st 1 rfl rfl rfl rfl (by first | rfl | simp [cellsOf, *]) (by first | decide | (simp [*]; done) | (simp [k8]; done)) (by repeat constructor) fun H5 st => ?_
 refine ⟨trivial, ?_⟩
 refine pE ?_
 show AWl _ _ _ _ _
 refine aN rfl rfl (by constructor) ?_
 refine sE ?_
 show AW _ (.cond _ _ _) _ _ _
 refine cT rfl ?_
 show AWl _ _ _ _ _
 iterate 3 refine aN rfl rfl (by constructor) ?_
 refine aLd st 2 rfl rfl rfl (by constructor) ?_
 iterate 3 refine aN rfl rfl (by constructor) ?_
 refine aSt st 2 rfl rfl rfl rfl (by first | rfl | simp [cellsOf, *]) (by first | decide | (simp [*]; done) | (simp [k8]; done)) (by repeat constructor) fun H6 st => ?_
 refine sE ?_
 show AWl _ _ _ _ _
 refine aLdA st 1 rfl rfl (by first | decide | simp [*]) (by repeat constructor) ?_
 refine aSt st 0 rfl rfl rfl rfl (by first | rfl | simp [cellsOf, *]) (by first | decide | (simp [*]; done) | (simp [k8]; done)) (by repeat constructor) fun H7 st => ?_
 refine sE ?_
 refine ⟨_, out1 (r_cellA st 0 rfl rfl (by first | decide | simp [*]) (by repeat constructor)), ?_⟩
 exact ⟨rfl, st.sel [2] (by decide)⟩
theorem reject_call {H : Hp} {b : Nat} {cmd stat wy : Int} {hd wr rd : Value} {p : Pd} {x : Value} (hk : H.m b = some ⟨true, 64, [.string ⟨#[]⟩, .string ⟨#[116]⟩, .bool false, .bool false, .bool false, .int .i64 sg, .int .i64 bu, .int .i64 65536, .bool true, .bool true, .slice none 0 0, .int .u32 cmd, .int .u32 stat, .int .u32 tg, hd, wr, .bool false, rd]⟩) (hp : p.wf) (hx : Sl H 1 p.data.length (p.data.map (Value.int .u8)) x) (hap : Apart b x) (h8 : p.data.length ≤ 8192) :
  ACalls Try.prog 22 [.pointer (some ⟨b, 0, none⟩), .agg #[.int .u8 p.op, .int .u8 p.fl, .int .u8 p.res, .int .u8 p.st, .int .u8 p.lun, .int .u32 p.tag, .int .u32 p.w0, .int .u32 p.w1, .int .u32 p.w2, .int .u32 p.w3, .int .u32 p.w4, .int .u32 p.w5, .int .u32 p.w6, x], .int .u8 wy] H (fun v H' => ∃ (c bp : Nat) (zs : List Int), v = .slice (some ⟨c, 0, none⟩) 1 14 ∧ (zs.length = 48 ∧ zs.getD 0 0 = p.op ∧ zs.getD 1 0 = p.fl) ∧ Stt [b] H H' [⟨some b, true, ⟨true, 64, [.string ⟨#[]⟩, .string ⟨#[116]⟩, .bool false, .bool false, .bool false, .int .i64 sg, .int .i64 bu, .int .i64 65536, .bool true, .bool true, .slice none 0 0, .int .u32 cmd, .int .u32 (IntKind.u32.wrap (stat + 1)), .int .u32 tg, hd, wr, .bool false, rd]⟩⟩, ⟨some c, true, ⟨true, 37, [.int .u8 63, .int .u8 128, .int .u8 wy, .int .u8 0, .int .u8 0, .int .u32 4294967295, .int .u32 0, .int .u32 stat, .int .u32 cmd, .int .u32 (IntKind.u32.wrap (IntKind.u32.wrap (cmd + 16) - 1)), .int .u32 0, .int .u32 0, .int .u32 0, .slice (some ⟨bp, 0, none⟩) 48 1]⟩⟩, ⟨some bp, true, ⟨true, 5, zs.map (Value.int .u8)⟩⟩]) := by
 refine acallsW Try.func22 f22_ok (Nat.le_of_ble_eq_true rfl) fun hw => ?_
 have st : Stt [b] H H [] := Stt.start hw
 replace st := st.mine hk rfl (by simp) (by simp)
 obtain ⟨px, cx, rfl⟩ := hx.shape
 unfold f22c
 show AWl _ _ _ _ _
 refine aBoxN st rfl rfl (by repeat constructor) rfl fun b4 H1 st => ?_
 refine aN rfl rfl (by constructor) ?_
 refine sE ?_
 show AWl _ _ _ _ _
 refine aN rfl rfl (by constructor) ?_
 refine aLd st 0 rfl rfl rfl (by constructor) ?_
 refine aN rfl rfl (by constructor) ?_
 refine aLd st 0 rfl rfl rfl (by constructor) ?_
 refine aN rfl rfl (by constructor) ?_
 refine aLd st 0 rfl rfl rfl (by constructor) ?_
 refine aN rfl rfl (by constructor) ?_
 refine aLd st 0 rfl rfl rfl (by constructor) ?_
 refine aN rfl rfl (by constructor) ?_
 refine aLd st 0 rfl rfl rfl (by constructor) ?_
 refine aN rfl rfl (by constructor) ?_
 refine aLd st 0 rfl rfl rfl (by constructor) ?_
 refine aN rfl rfl (by constructor) ?_
 refine aLdA st 0 rfl rfl (by first | decide | simp [*]) (by repeat constructor) ?_
 refine aBld rfl (by repeat constructor) ?_
 refine aC (enc_call (p := ({ p with data := [] } : Pd)) (x := .slice none 0 0) (hd := false) (dt := false) (wf0 hp) sl_nil') fun v25 H2 ⟨ob25, hv, st1⟩ => ?_
 subst hv
 replace st := st.call st1 rfl
 clear st1
 obtain ⟨hl48, hg0, hg1, hyb⟩ := enc0 hp
 generalize (encR ({ p with data := [] } : Pd) false false) = ys at st hl48 hg0 hg1 hyb ⊢
 obtain ⟨be, rfl⟩ := st.isSome 0 rfl (fun h => by have h9 := congrArg List.length h; rw [List.length_map, hl48] at h9; cases h9)
 iterate 5 refine aN rfl rfl (by constructor) ?_
 refine sE ?_
 show AWl _ _ _ _ _
 iterate 2 refine aN rfl rfl (by constructor) ?_
 refine aLdQ st 1 rfl rfl rfl (rfl : (Value.slice px p.data.length cx) = _) ?_
 refine aLen (st.slcX hx (by assumption)) rfl ?_
 refine aConvV (n' := (p.data.length : Int)) rfl (by rw [w64]; omega) ?_
 refine aC (put_call (xs := ys) (v := (p.data.length : Int)) (st.rowAcc (ob := some be) 0 rfl (by decide) (by rw [List.length_map, Nat.mul_one])) hyb (by omega) (by omega) (by rw [show (256 : Int) ^ (3 : Int).toNat = 16777216 by decide]; omega)) fun v34 H3 ⟨b34, hv, st1⟩ => ?_
 subst hv
 replace st := st.call st1 rfl
 clear st1
 have hz := put0 hl48 (p.data.length : Int)
 rw [hg0, hg1] at hz
 generalize ys.take (5 : Int).toNat ++ beB (3 : Int).toNat (p.data.length : Int) ++ ys.drop ((5 : Int).toNat + (3 : Int).toNat) = zs at st hz
 rw [hl48]
 have hz1 := hz.1
 iterate 4 refine aN rfl rfl (by constructor) ?_
 refine sE ?_
 show AWl _ _ _ _ _
 iterate 3 refine aN rfl rfl (by constructor) ?_
 refine aBld rfl (by repeat constructor) ?_
 refine aC (numbered2_call (k := zs) (x := accV (some b34) 48 1) (st.get (j := 3) rfl) (by rw [hz1]; exact st.rowAcc (ob := some b34) 0 rfl (by decide) (by rw [List.length_map, hz1])) (acc_apart (st.ne 0 3 rfl rfl (by decide)))) fun v41 H4 ⟨hv, st1⟩ => ?_
 subst hv
 replace st := st.callX 3 rfl st1 rfl
 clear st1
 refine aLit st rfl (by repeat constructor) fun b42 H5 st => ?_
 refine aN rfl rfl (by constructor) ?_
 refine sE ?_
 refine ⟨_, out1 (r_tmp rfl (by constructor)), ?_⟩
 exact ⟨b42, b34, zs, rfl, hz, st.sel [1, 0, 2] (by decide)⟩
theorem in_reject {H : Hp} {b : Nat} {cmd stat : Int} {p : Pd} {x : Value} (hk : H.m b = some ⟨true, 64, [.string ⟨#[]⟩, .string ⟨#[116]⟩, .bool false, .bool false, .bool false, .int .i64 sg, .int .i64 bu, .int .i64 65536, .bool true, .bool true, .slice none 0 0, .int .u32 cmd, .int .u32 stat, .int .u32 tg, .slice none 0 0, .slice none 0 0, .bool false, .slice none 0 0]⟩) (hp : ({ p with op := 33 } : Pd).wf) (hx : Sl H 1 p.data.length (p.data.map (Value.int .u8)) x) (hap : Apart b x) (h8 : p.data.length ≤ 8192) :
  ACalls Try.prog 13 [.pointer (some ⟨b, 0, none⟩), .agg #[.int .u8 33, .int .u8 p.fl, .int .u8 p.res, .int .u8 p.st, .int .u8 p.lun, .int .u32 p.tag, .int .u32 p.w0, .int .u32 p.w1, .int .u32 p.w2, .int .u32 p.w3, .int .u32 p.w4, .int .u32 p.w5, .int .u32 p.w6, x]] H (fun v H' => ∃ (c bp : Nat) (zs : List Int), v = .tuple #[.slice (some ⟨c, 0, none⟩) 1 14, .slice none 0 0] ∧ (zs.length = 48 ∧ zs.getD 0 0 = 33 ∧ zs.getD 1 0 = p.fl) ∧ Stt [b] H H' [⟨some b, true, ⟨true, 64, [.string ⟨#[]⟩, .string ⟨#[116]⟩, .bool false, .bool false, .bool false, .int .i64 sg, .int .i64 bu, .int .i64 65536, .bool true, .bool true, .slice none 0 0, .int .u32 cmd, .int .u32 (IntKind.u32.wrap (stat + 1)), .int .u32 tg, .slice none 0 0, .slice none 0 0, .bool false, .slice none 0 0]⟩⟩, ⟨some c, true, ⟨true, 37, [.int .u8 63, .int .u8 128, .int .u8 5, .int .u8 0, .int .u8 0, .int .u32 4294967295, .int .u32 0, .int .u32 stat, .int .u32 cmd, .int .u32 (IntKind.u32.wrap (IntKind.u32.wrap (cmd + 16) - 1)), .int .u32 0, .int .u32 0, .int .u32 0, .slice (some ⟨bp, 0, none⟩) 48 1]⟩⟩, ⟨some bp, true, ⟨true, 5, zs.map (Value.int .u8)⟩⟩]) := by
 refine acallsW Try.func13 f13_ok (Nat.le_of_ble_eq_true rfl) fun hw => ?_
 have st : Stt [b] H H [] := Stt.start hw
 replace st := st.mine hk rfl (by simp) (by simp)
 obtain ⟨px, cx, rfl⟩ := hx.shape
 unfold f13c
 show AWl _ _ _ _ _
 refine aBoxN st rfl rfl (by repeat constructor) rfl fun b3 H1 st => ?_
 iterate 2 refine aN rfl rfl (by constructor) ?_
 refine sE ?_
 show AWl _ _ _ _ _
 refine aN rfl rfl (by constructor) ?_
 refine aBinV (.bool false) rfl rfl rfl ?_
 refine aN rfl rfl (by constructor) ?_
 refine gT rfl ?_
 refine aN rfl rfl (by constructor) ?_
 refine gT rfl ?_
 refine aN rfl rfl (by constructor) ?_
 refine gT rfl ?_
 refine aN rfl rfl (by constructor) ?_
 refine gT rfl ?_
 refine aLd st 1 rfl rfl rfl (by constructor) ?_
 refine aN rfl rfl (by constructor) ?_
 refine sE ?_
 show AW _ (.cond _ _ _) _ _ _
 refine cF' rfl ?_
 show AWp _ _ _ _ _
 refine aN rfl rfl (by constructor) ?_
 refine aLd st 0 rfl rfl rfl (by constructor) ?_
 refine aBinV (.int .u8 33) rfl rfl rfl ?_
 refine aN rfl rfl (by constructor) ?_
 refine aLd st 0 rfl rfl rfl (by constructor) ?_
 refine aBinV (.int .u8 0) rfl rfl rfl ?_
 refine aBinV (.bool false) rfl rfl rfl ?_
 iterate 2 refine aN rfl rfl (by constructor) ?_
 refine pE ?_
 show AWl _ _ _ _ _
 refine aN rfl rfl (by constructor) ?_
 refine aBinV (.bool false) rfl rfl rfl ?_
 refine aN rfl rfl (by constructor) ?_
 refine sE ?_
 show AW _ (.cond _ _ _) _ _ _
 refine cF' rfl ?_
 show AWl _ _ _ _ _
 refine aN rfl rfl (by constructor) ?_
 refine aBinV (.bool true) rfl rfl rfl ?_
 refine aN rfl rfl (by constructor) ?_
 refine gT rfl ?_
 refine aN rfl rfl (by constructor) ?_
 refine gT rfl ?_
 refine aBinV (.bool true) rfl rfl rfl ?_
 iterate 2 refine aN rfl rfl (by constructor) ?_
 refine gT rfl ?_
 refine aN rfl rfl (by constructor) ?_
 refine gT rfl ?_
 refine aBinV (.bool true) rfl rfl rfl ?_
 iterate 2 refine aN rfl rfl (by constructor) ?_
 refine gT rfl ?_
 refine aN rfl rfl (by constructor) ?_
 refine gT rfl ?_
 refine aBinV (.bool true) rfl rfl rfl ?_
 iterate 2 refine aN rfl rfl (by constructor) ?_
 refine gT rfl ?_
 refine aN rfl rfl (by constructor) ?_
 refine gT rfl ?_
 refine aBinV (.bool true) rfl rfl rfl ?_
 iterate 2 refine aN rfl rfl (by constructor) ?_
 refine gF rfl (by decide) ?_
 refine gF rfl (by decide) ?_
 refine gF rfl (by decide) ?_
 refine gF rfl (by decide) ?_
 iterate 2 refine aN rfl rfl (by constructor) ?_
 refine sE ?_
 show AW _ (.cond _ _ _) _ _ _
 refine cT rfl ?_
 show AWl _ _ _ _ _
 refine aN rfl rfl (by constructor) ?_
 refine aLdA st 0 rfl rfl (by first | decide | simp [*]) (by repeat constructor) ?_
 refine aC (reject_call (p := { p with op := 33 }) (st.get (j := 1) rfl) hp (st.slcX hx hap) hap h8) fun v66 H2 ⟨c66, bp66, zs, hv, hz, st1⟩ => ?_
 subst hv
 replace st := st.callX 1 rfl st1 rfl
 clear st1
 iterate 2 refine aN rfl rfl (by constructor) ?_
 refine sE ?_
 refine ⟨_, out2 (r_tmp rfl (by constructor)) (r_tmp rfl (by constructor)) ⟨rfl, rfl⟩, ?_⟩
 exact ⟨c66, bp66, zs, rfl, hz, st.sel [0, 1, 2] (by decide)⟩
end Go.Proofs.Ytloeadlmcdddnaa.Abs
