/- PDUs: read. -/
import Derived.Test.YtfjlniemgmimnaaU4
import Derived.Test.YtfjlniemgmimnaaU5
set_option linter.unusedVariables false
set_option linter.unusedSimpArgs false
set_option maxRecDepth 100000
namespace Go.Proofs.Ytfjlniemgmimnaa.Abs
open Go Go.RowKit
theorem pdec_call {H : Hp} {xs : List Int} {x : Value} {hd dt : Bool} (hx : Sl H 1 xs.length (xs.map (Value.int .u8)) x) (hb : ByteL xs) (hl : xs.length ≤ 140737488351232) : ACalls Try.prog 12 [x, .bool hd, .bool dt] H (fun v H' => ∃ ob, v = .tuple #[.agg #[.int .u8 (decP xs hd dt).op, .int .u8 (decP xs hd dt).fl, .int .u8 (decP xs hd dt).res, .int .u8 (decP xs hd dt).st, .int .u8 (decP xs hd dt).lun, .int .u32 (decP xs hd dt).tag, .int .u32 (decP xs hd dt).w0, .int .u32 (decP xs hd dt).w1, .int .u32 (decP xs hd dt).w2, .int .u32 (decP xs hd dt).w3, .int .u32 (decP xs hd dt).w4, .int .u32 (decP xs hd dt).w5, .int .u32 (decP xs hd dt).w6, accV ob (decP xs hd dt).data.length 1], .int .i64 (decN xs hd dt), .int .i64 (decE xs hd dt)] ∧ Stt [] H H' [⟨ob, true, ⟨true, 5, (decP xs hd dt).data.map (Value.int .u8)⟩⟩]) := by
  cases hd
  · cases dt
    · exact pdec_call_ff hx hb hl
    · exact pdec_call_ft hx hb hl
  · cases dt
    · exact pdec_call_tf hx hb hl
    · exact pdec_call_tt hx hb hl
theorem rdec_call {H : Hp} {xs : List Int} {x : Value} {hd dt : Bool} (hx : Sl H 1 xs.length (xs.map (Value.int .u8)) x) (hb : ByteL xs) (hl : xs.length ≤ 140737488351232) : ACalls Try.prog 14 [x, .bool hd, .bool dt] H (fun v H' => ∃ ob, v = .tuple #[.agg #[.int .u8 (decP xs hd dt).op, .int .u8 (decP xs hd dt).fl, .int .u8 (decP xs hd dt).res, .int .u8 (decP xs hd dt).st, .int .u8 (decP xs hd dt).lun, .int .u32 (decP xs hd dt).tag, .int .u32 (decP xs hd dt).w0, .int .u32 (decP xs hd dt).w1, .int .u32 (decP xs hd dt).w2, .int .u32 (decP xs hd dt).w3, .int .u32 (decP xs hd dt).w4, .int .u32 (decP xs hd dt).w5, .int .u32 (decP xs hd dt).w6, accV ob (decP xs hd dt).data.length 1], .int .i64 (decN xs hd dt), .int .i64 (decE xs hd dt)] ∧ Stt [] H H' [⟨ob, true, ⟨true, 5, (decP xs hd dt).data.map (Value.int .u8)⟩⟩]) := by
  cases hd
  · cases dt
    · exact rdec_call_ff hx hb hl
    · exact rdec_call_ft hx hb hl
  · cases dt
    · exact rdec_call_tf hx hb hl
    · exact rdec_call_tt hx hb hl
theorem ws_eqL (a b c d e f g : Int) : eqL [5, 5, 5, 5, 5, 5, 5] [.int .u32 a, .int .u32 b, .int .u32 c, .int .u32 d, .int .u32 e, .int .u32 f, .int .u32 g] [.int .u32 a, .int .u32 b, .int .u32 c, .int .u32 d, .int .u32 e, .int .u32 f, .int .u32 g] = some true := by
  show some ((a == a) && ((b == b) && ((c == c) && ((d == d) && ((e == e) && ((f == f) && ((g == g) && true))))))) = _
  simp
theorem same_call {H : Hp} {p : Pd} {x y : Value} (hx : Sl H 1 p.data.length (p.data.map (Value.int .u8)) x) (hy : Sl H 1 p.data.length (p.data.map (Value.int .u8)) y) :
  ACalls Try.prog 13 [.agg #[.int .u8 p.op, .int .u8 p.fl, .int .u8 p.res, .int .u8 p.st, .int .u8 p.lun, .int .u32 p.tag, .int .u32 p.w0, .int .u32 p.w1, .int .u32 p.w2, .int .u32 p.w3, .int .u32 p.w4, .int .u32 p.w5, .int .u32 p.w6, x], .agg #[.int .u8 p.op, .int .u8 p.fl, .int .u8 p.res, .int .u8 p.st, .int .u8 p.lun, .int .u32 p.tag, .int .u32 p.w0, .int .u32 p.w1, .int .u32 p.w2, .int .u32 p.w3, .int .u32 p.w4, .int .u32 p.w5, .int .u32 p.w6, y]] H (fun v H' => v = .bool true ∧ Stt [] H H' []) := by
 refine acallsW Try.func13 f13_ok (Nat.le_of_ble_eq_true rfl) fun hw => ?_
 have st : Stt [] H H [] := Stt.start hw
 unfold f13c
 show AWl _ _ _ _ _
 refine aBoxN st rfl rfl (by repeat constructor) rfl fun b2 H1 st => ?_
 refine aBoxN st rfl rfl (by repeat constructor) rfl fun b3 H2 st => ?_
 refine aN rfl rfl (by constructor) ?_
 refine sE ?_
 show AWl _ _ _ _ _
 refine aN rfl rfl (by constructor) ?_
 refine aLd st 1 rfl rfl rfl (by constructor) ?_
 refine aN rfl rfl (by constructor) ?_
 refine aLd st 0 rfl rfl rfl (by constructor) ?_
 refine aEqII rfl rfl ?_
 refine aN rfl rfl (by constructor) ?_
 refine gT rfl ?_
 refine aN rfl rfl (by constructor) ?_
 refine gT rfl ?_
 refine aLd st 1 rfl rfl rfl (by constructor) ?_
 refine gT rfl ?_
 refine aN rfl rfl (by constructor) ?_
 refine gT rfl ?_
 refine aLd st 0 rfl rfl rfl (by constructor) ?_
 refine gT rfl ?_
 refine aEqII rfl rfl ?_
 iterate 2 refine aN rfl rfl (by constructor) ?_
 refine gT rfl ?_
 refine aN rfl rfl (by constructor) ?_
 refine gT rfl ?_
 refine aLd st 1 rfl rfl rfl (by constructor) ?_
 refine gT rfl ?_
 refine aN rfl rfl (by constructor) ?_
 refine gT rfl ?_
 refine aLd st 0 rfl rfl rfl (by constructor) ?_
 refine gT rfl ?_
 refine aEqII rfl rfl ?_
 iterate 2 refine aN rfl rfl (by constructor) ?_
 refine gT rfl ?_
 refine aN rfl rfl (by constructor) ?_
 refine gT rfl ?_
 refine aLd st 1 rfl rfl rfl (by constructor) ?_
 refine gT rfl ?_
 refine aN rfl rfl (by constructor) ?_
 refine gT rfl ?_
 refine aLd st 0 rfl rfl rfl (by constructor) ?_
 refine gT rfl ?_
 refine aEqII rfl rfl ?_
 iterate 2 refine aN rfl rfl (by constructor) ?_
 refine gT rfl ?_
 refine aN rfl rfl (by constructor) ?_
 refine gT rfl ?_
 refine aLd st 1 rfl rfl rfl (by constructor) ?_
 refine gT rfl ?_
 refine aN rfl rfl (by constructor) ?_
 refine gT rfl ?_
 refine aLd st 0 rfl rfl rfl (by constructor) ?_
 refine gT rfl ?_
 refine aEqII rfl rfl ?_
 iterate 2 refine aN rfl rfl (by constructor) ?_
 refine gT rfl ?_
 refine aN rfl rfl (by constructor) ?_
 refine gT rfl ?_
 refine aLd st 1 rfl rfl rfl (by constructor) ?_
 refine gT rfl ?_
 refine aN rfl rfl (by constructor) ?_
 refine gT rfl ?_
 refine aLd st 0 rfl rfl rfl (by constructor) ?_
 refine gT rfl ?_
 refine aEqII rfl rfl ?_
 iterate 2 refine aN rfl rfl (by constructor) ?_
 refine gT rfl ?_
 refine aN rfl rfl (by constructor) ?_
 refine gT rfl ?_
 refine aLdA st 1 rfl rfl (by first | decide | simp [*]) (by repeat constructor) ?_
 refine gT rfl ?_
 refine aN rfl rfl (by constructor) ?_
 refine gT rfl ?_
 refine aLdA st 0 rfl rfl (by first | decide | simp [*]) (by repeat constructor) ?_
 refine gT rfl ?_
 refine aEqAV true rfl rfl (ws_eqL _ _ _ _ _ _ _) ?_
 iterate 2 refine aN rfl rfl (by constructor) ?_
 refine gT rfl ?_
 refine aN rfl rfl (by constructor) ?_
 refine gT rfl ?_
 refine aLdQ st 1 rfl rfl rfl (rfl : x = _) ?_
 refine gT rfl ?_
 refine aText (st.slc hx) rfl ?_
 refine gT rfl ?_
 refine aN rfl rfl (by constructor) ?_
 refine gT rfl ?_
 refine aLdQ st 0 rfl rfl rfl (rfl : y = _) ?_
 refine gT rfl ?_
 refine aText (st.slc hy) rfl ?_
 refine gT rfl ?_
 refine aEqSS rfl rfl ?_
 iterate 2 refine aN rfl rfl (by constructor) ?_
 refine sE ?_
 refine ⟨_, out1 (r_tmp rfl (by constructor)), ?_⟩
 exact ⟨rfl, st.drop⟩
theorem enc1_call {H : Hp} {x : Value} (hx : Sl H 1 1 [.int .u8 97] x) : ACalls Try.prog 10 [.agg #[.int .u8 1, .int .u8 0, .int .u8 0, .int .u8 0, .int .u8 0, .int .u32 0, .int .u32 0, .int .u32 0, .int .u32 0, .int .u32 0, .int .u32 0, .int .u32 0, .int .u32 0, x], .bool false, .bool false] H (fun v H' => ∃ b, v = .tuple #[.slice (some ⟨b, 0, none⟩) 52 1, .int .i64 0] ∧ Stt [] H H' [⟨some b, true, ⟨true, 5, [.int .u8 1, .int .u8 0, .int .u8 0, .int .u8 0, .int .u8 0, .int .u8 0, .int .u8 0, .int .u8 1, .int .u8 0, .int .u8 0, .int .u8 0, .int .u8 0, .int .u8 0, .int .u8 0, .int .u8 0, .int .u8 0, .int .u8 0, .int .u8 0, .int .u8 0, .int .u8 0, .int .u8 0, .int .u8 0, .int .u8 0, .int .u8 0, .int .u8 0, .int .u8 0, .int .u8 0, .int .u8 0, .int .u8 0, .int .u8 0, .int .u8 0, .int .u8 0, .int .u8 0, .int .u8 0, .int .u8 0, .int .u8 0, .int .u8 0, .int .u8 0, .int .u8 0, .int .u8 0, .int .u8 0, .int .u8 0, .int .u8 0, .int .u8 0, .int .u8 0, .int .u8 0, .int .u8 0, .int .u8 0, .int .u8 97, .int .u8 0, .int .u8 0, .int .u8 0]⟩⟩]) := by
  refine (enc_call (p := (⟨1, 0, 0, 0, 0, 0, 0, 0, 0, 0, 0, 0, 0, [97]⟩ : Pd)) (hd := false) (dt := false) (by refine ⟨⟨?_, ?_, ?_, ?_, ?_⟩, ?_, ?_, ?_, ?_⟩ <;> first | (unfold B8; decide) | (unfold B32; decide) | (intro w hw; simp [Pd.ws] at hw; subst hw; unfold B32; decide) | (simp only [byteL_cons, byteL_nil, and_true]; decide) | decide) hx).mono fun v H' ⟨ob, hv, st⟩ => ?_
  have hE : encE (⟨1, 0, 0, 0, 0, 0, 0, 0, 0, 0, 0, 0, 0, [97]⟩ : Pd) = 0 := by decide
  have hR : encR (⟨1, 0, 0, 0, 0, 0, 0, 0, 0, 0, 0, 0, 0, [97]⟩ : Pd) false false = [1, 0, 0, 0, 0, 0, 0, 1, 0, 0, 0, 0, 0, 0, 0, 0, 0, 0, 0, 0, 0, 0, 0, 0, 0, 0, 0, 0, 0, 0, 0, 0, 0, 0, 0, 0, 0, 0, 0, 0, 0, 0, 0, 0, 0, 0, 0, 0, 97, 0, 0, 0] := by decide
  rw [hR, hE] at hv
  rw [hR] at st
  obtain ⟨b, rfl⟩ := st.isSome 0 rfl (by simp)
  exact ⟨b, hv, st⟩
theorem awake_call {H : Hp}  :
  ACalls Try.prog 9 [] H (fun v H' => v = .bool true ∧ Stt [] H H' []) := by
 refine acallsW Try.func9 f9_ok (Nat.le_of_ble_eq_true rfl) fun hw => ?_
 have st : Stt [] H H [] := Stt.start hw
 unfold f9c
 show AWl _ _ _ _ _
 refine aN rfl rfl (by constructor) ?_
 refine sE ?_
 show AWl _ _ _ _ _
 refine aLit st rfl (by repeat constructor) fun b4 H1 st => ?_
 refine aSame (j := 0) st rfl rfl (by decide) ?_
 refine aBld rfl (by repeat constructor) ?_
 refine aC (enc1_call (st.rowAll 0 rfl rfl)) fun v7 H2 ⟨b7, hv, st1⟩ => ?_
 subst hv
 replace st := st.call st1 rfl
 clear st1
 iterate 5 refine aN rfl rfl (by constructor) ?_
 refine sE ?_
 show AWl _ _ _ _ _
 refine aN rfl rfl (by constructor) ?_
 refine aBinV (.bool true) rfl rfl rfl ?_
 refine aN rfl rfl (by constructor) ?_
 refine gT rfl ?_
 refine aN rfl rfl (by constructor) ?_
 refine gT rfl ?_
 refine aN rfl rfl (by constructor) ?_
 refine gT rfl ?_
 refine aBinV (.bool true) (u := .int .i64 52) (u' := .int .i64 52) rfl rfl rfl ?_
 iterate 2 refine aN rfl rfl (by constructor) ?_
 refine gT rfl ?_
 refine aN rfl rfl (by constructor) ?_
 refine gT rfl ?_
 refine aN rfl rfl (by constructor) ?_
 refine gT rfl ?_
 refine aLd st 0 rfl rfl rfl (by constructor) ?_
 refine gT rfl ?_
 refine aBinV (.bool true) (u := .int .u8 97) (u' := .int .u8 97) rfl rfl rfl ?_
 iterate 2 refine aN rfl rfl (by constructor) ?_
 refine sE ?_
 refine ⟨_, out1 (r_tmp rfl (by constructor)), ?_⟩
 exact ⟨rfl, st.drop⟩
end Go.Proofs.Ytfjlniemgmimnaa.Abs
