/- PDUs in pieces: the reader. -/
import Derived.Test.YtfjlniemgmimnaaV1
set_option linter.unusedVariables false
set_option linter.unusedSimpArgs false
set_option maxRecDepth 100000
namespace Go.Proofs.Ytfjlniemgmimnaa.Abs
open Go Go.RowKit
theorem rnew_call {H : Hp}  :
  ACalls Try.prog 20 [] H (fun v H' => ∃ b, v = .pointer (some ⟨b, 0, none⟩) ∧ Stt [] H H' [⟨some b, true, ⟨true, 64, [.slice none 0 0, .bool false, .bool false, .int .i64 0]⟩⟩]) := by
 refine acallsW Try.func20 f20_ok (Nat.le_of_ble_eq_true rfl) fun hw => ?_
 have st : Stt [] H H [] := Stt.start hw
 unfold f20c
 show AWl _ _ _ _ _
 refine aN rfl rfl (by constructor) ?_
 refine sE ?_
 show AWl _ _ _ _ _
 refine aBld rfl (by repeat constructor) ?_
 refine aBoxN st rfl rfl (by repeat constructor) rfl fun b2 H1 st => ?_
 refine aN rfl rfl (by constructor) ?_
 refine sE ?_
 refine ⟨_, out1 (r_tmp rfl (by constructor)), ?_⟩
 exact ⟨b2, rfl, st.pick 0 rfl⟩
theorem rdig_call {H : Hp} {b : Nat} {hd dt : Bool} (hk : H.m b = some ⟨true, 64, [.slice none 0 0, .bool false, .bool false, .int .i64 0]⟩) :
  ACalls Try.prog 15 [.pointer (some ⟨b, 0, none⟩), .bool hd, .bool dt] H (fun v H' => Stt [b] H H' [⟨some b, true, ⟨true, 64, [.slice none 0 0, .bool hd, .bool dt, .int .i64 0]⟩⟩]) := by
 refine acallsW Try.func15 f15_ok (Nat.le_of_ble_eq_true rfl) fun hw => ?_
 have st : Stt [b] H H [] := Stt.start hw
 replace st := st.mine hk rfl (by simp) (by simp)
 unfold f15c
 show AWl _ _ _ _ _
 refine aN rfl rfl (by constructor) ?_
 refine aBinV (.bool true) rfl rfl rfl ?_
 refine sE ?_
 show AW _ (.cond _ _ _) _ _ _
 refine cT rfl ?_
 show AWl _ _ _ _ _
 iterate 6 refine aN rfl rfl (by constructor) ?_
 refine aSt st 0 rfl rfl rfl rfl (by first | rfl | simp [cellsOf, *]) (by first | decide | (simp [*]; done) | (simp [k8]; done)) (by repeat constructor) fun H1 st => ?_
 iterate 2 refine aN rfl rfl (by constructor) ?_
 refine aSt st 0 rfl rfl rfl rfl (by first | rfl | simp [cellsOf, *]) (by first | decide | (simp [*]; done) | (simp [k8]; done)) (by repeat constructor) fun H2 st => ?_
 refine sE ?_
 refine ⟨_, rfl , ?_⟩
 exact st.sel [0] (by decide)
theorem rheld_call {H : Hp} {b : Nat} {k : List Int} {x : Value} {hd dt : Bool} {f : Int} (hk : H.m b = some ⟨true, 64, [x, .bool hd, .bool dt, .int .i64 f]⟩) (hx : Sl H 1 k.length (k.map (Value.int .u8)) x)  :
  ACalls Try.prog 18 [.pointer (some ⟨b, 0, none⟩)] H (fun v H' => v = .int .i64 (k.length : Int) ∧ Stt [] H H' []) := by
 refine acallsW Try.func18 f18_ok (Nat.le_of_ble_eq_true rfl) fun hw => ?_
 have st : Stt [] H H [] := Stt.start hw
 replace st := st.ro hk (by simp)
 unfold f18c
 show AWl _ _ _ _ _
 refine aN rfl rfl (by constructor) ?_
 refine sE ?_
 show AWl _ _ _ _ _
 refine aN rfl rfl (by constructor) ?_
 refine aBinV (.bool false) rfl rfl rfl ?_
 refine sE ?_
 show AW _ (.cond _ _ _) _ _ _
 refine cF' rfl ?_
 show AWl _ _ _ _ _
 iterate 3 refine aN rfl rfl (by constructor) ?_
 refine aLdQ st 0 rfl rfl rfl (rfl : x = _) ?_
 refine aLen (st.slc hx) rfl ?_
 refine aN rfl rfl (by constructor) ?_
 refine sE ?_
 refine ⟨_, out1 (r_tmp rfl (by constructor)), ?_⟩
 exact ⟨rfl, st.drop⟩
theorem rfeed_call {H : Hp} {b : Nat} {k : List Int} {x : Value} {hd dt : Bool} {f : Int} {p : List Int} {y : Value} (hk : H.m b = some ⟨true, 64, [x, .bool hd, .bool dt, .int .i64 f]⟩) (hx : Sl H 1 k.length (k.map (Value.int .u8)) x) (hap : Apart b x) (hy : Sl H 1 p.length (p.map (Value.int .u8)) y) (hapy : Apart b y) (hl : k.length + p.length ≤ 1000000) :
  ACalls Try.prog 16 [.pointer (some ⟨b, 0, none⟩), y] H (fun v H' => (f ≠ 0 ∧ Stt [b] H H' [⟨some b, true, ⟨true, 64, [x, .bool hd, .bool dt, .int .i64 f]⟩⟩]) ∨ (f = 0 ∧ ∃ ob, Stt [b] H H' [⟨some b, true, ⟨true, 64, [accV ob (k ++ p).length 1, .bool hd, .bool dt, .int .i64 0]⟩⟩, ⟨ob, true, ⟨true, 5, (k ++ p).map (Value.int .u8)⟩⟩])) := by
 refine acallsW Try.func16 f16_ok (Nat.le_of_ble_eq_true rfl) fun hw => ?_
 have st : Stt [b] H H [] := Stt.start hw
 replace st := st.mine hk rfl (by simp) (by simp)
 unfold f16c
 show AWl _ _ _ _ _
 refine aN rfl rfl (by constructor) ?_
 refine aBinV (.bool true) rfl rfl rfl ?_
 refine aN rfl rfl (by constructor) ?_
 refine gT rfl ?_
 refine aN rfl rfl (by constructor) ?_
 refine gT rfl ?_
 refine aN rfl rfl (by constructor) ?_
 refine gT rfl ?_
 refine aN rfl rfl (by constructor) ?_
 refine gT rfl ?_
 refine aLd st 0 rfl rfl rfl (by constructor) ?_
 refine gT rfl ?_
 iterate 2 refine aN rfl rfl (by constructor) ?_
 refine sE ?_
 show AW _ (.cond _ _ _) _ _ _
 refine cC' rfl (fun h1 => ?_) (fun h1 => ?_)
 ·show AWl _ _ _ _ _
  iterate 4 refine aN rfl rfl (by constructor) ?_
  refine aLdQ st 0 rfl rfl rfl (rfl : x = _) ?_
  have st := st.nil 5
  have hnil : (Value.slice none 0 0) = accV none 0 1 := rfl
  refine aApp st 0 (ob := none) (n := 0) rfl rfl rfl (by decide) (rfl) (st.slcX hx (by assumption)).src (by simp) (by omega) (by omega) fun b18 H2 hp18 st => ?_
  refine aMovV y rfl ?_
  refine aApp st 0 (ob := b18) rfl rfl rfl (by decide) (by simp) (st.slcX hy (by assumption)).src (by simp) (by omega) (by omega) fun b20 H3 hp20 st => ?_
  iterate 2 refine aN rfl rfl (by constructor) ?_
  refine aStS (st.rowAcc 0 rfl (by decide) (by simp)) st 1 rfl rfl rfl (by first | decide | simp) fun H4 st => ?_
  refine sE ?_
  refine ⟨_, rfl , ?_⟩
  have h0 : f = 0 := by simpa using h1
  subst h0
  have st := st.recell 0 rfl (cs' := (k ++ p).map (Value.int .u8)) (by simp)
  exact .inr ⟨rfl, b20, by rw [show (k ++ p).length = 0 + k.length + p.length by simp]; exact st.sel [1, 0] (by decide)⟩
 ·refine ⟨_, rfl , ?_⟩
  exact .inl ⟨by simpa using h1, st.sel [0] (by decide)⟩
theorem rnext_call {H : Hp} {b : Nat} {k : List Int} {x : Value} {hd dt : Bool} {f : Int} (hk : H.m b = some ⟨true, 64, [x, .bool hd, .bool dt, .int .i64 f]⟩) (hx : Sl H 1 k.length (k.map (Value.int .u8)) x) (hap : Apart b x) (hb : ByteL k) (hl : k.length ≤ 1000000) :
  ACalls Try.prog 17 [.pointer (some ⟨b, 0, none⟩)] H (fun v H' => (f ≠ 0 ∧ v = .tuple #[.agg #[.int .u8 0, .int .u8 0, .int .u8 0, .int .u8 0, .int .u8 0, .int .u32 0, .int .u32 0, .int .u32 0, .int .u32 0, .int .u32 0, .int .u32 0, .int .u32 0, .int .u32 0, .slice none 0 0], .int .i64 f] ∧ Stt [b] H H' [⟨some b, true, ⟨true, 64, [x, .bool hd, .bool dt, .int .i64 f]⟩⟩]) ∨ (f = 0 ∧ decE k hd dt = 0 ∧ ∃ ob y, v = .tuple #[.agg #[.int .u8 (decP k hd dt).op, .int .u8 (decP k hd dt).fl, .int .u8 (decP k hd dt).res, .int .u8 (decP k hd dt).st, .int .u8 (decP k hd dt).lun, .int .u32 (decP k hd dt).tag, .int .u32 (decP k hd dt).w0, .int .u32 (decP k hd dt).w1, .int .u32 (decP k hd dt).w2, .int .u32 (decP k hd dt).w3, .int .u32 (decP k hd dt).w4, .int .u32 (decP k hd dt).w5, .int .u32 (decP k hd dt).w6, accV ob (decP k hd dt).data.length 1], .int .i64 0] ∧ Stt [b] H H' [⟨some b, true, ⟨true, 64, [y, .bool hd, .bool dt, .int .i64 0]⟩⟩, ⟨ob, true, ⟨true, 5, ((decP k hd dt).data).map (Value.int .u8)⟩⟩] ∧ (∀ H2, Sl H2 1 k.length (k.map (Value.int .u8)) x → Sl H2 1 (k.drop (decN k hd dt)).length ((k.drop (decN k hd dt)).map (Value.int .u8)) y)) ∨ (f = 0 ∧ decE k hd dt ≠ 0 ∧ decE k hd dt ≠ 8 ∧ v = .tuple #[.agg #[.int .u8 0, .int .u8 0, .int .u8 0, .int .u8 0, .int .u8 0, .int .u32 0, .int .u32 0, .int .u32 0, .int .u32 0, .int .u32 0, .int .u32 0, .int .u32 0, .int .u32 0, .slice none 0 0], .int .i64 (decE k hd dt)] ∧ Stt [b] H H' [⟨some b, true, ⟨true, 64, [.slice none 0 0, .bool hd, .bool dt, .int .i64 (decE k hd dt)]⟩⟩]) ∨ (f = 0 ∧ decE k hd dt = 8 ∧ v = .tuple #[.agg #[.int .u8 0, .int .u8 0, .int .u8 0, .int .u8 0, .int .u8 0, .int .u32 0, .int .u32 0, .int .u32 0, .int .u32 0, .int .u32 0, .int .u32 0, .int .u32 0, .int .u32 0, .slice none 0 0], .int .i64 8] ∧ Stt [b] H H' [⟨some b, true, ⟨true, 64, [x, .bool hd, .bool dt, .int .i64 0]⟩⟩])) := by
 refine acallsW Try.func17 f17_ok (Nat.le_of_ble_eq_true rfl) fun hw => ?_
 have st : Stt [b] H H [] := Stt.start hw
 replace st := st.mine hk rfl (by simp) (by simp)
 unfold f17c
 show AWl _ _ _ _ _
 refine aNewP st rfl rfl (by repeat constructor) fun b2 H1 st => ?_
 refine aN rfl rfl (by constructor) ?_
 refine sE ?_
 show AWl _ _ _ _ _
 refine aN rfl rfl (by constructor) ?_
 refine aBinV (.bool false) rfl rfl rfl ?_
 refine aN rfl rfl (by constructor) ?_
 refine sE ?_
 show AW _ (.cond _ _ _) _ _ _
 refine cF' rfl ?_
 show AWl _ _ _ _ _
 iterate 3 refine aN rfl rfl (by constructor) ?_
 refine aLd st 1 rfl rfl rfl (by constructor) ?_
 iterate 2 refine aN rfl rfl (by constructor) ?_
 refine sE ?_
 show AW _ (.cond _ _ _) _ _ _
 refine cC' rfl (fun h2 => ?_) (fun h2 => ?_)
 ·show AWp _ _ _ _ _
  refine aBld rfl (by repeat constructor) ?_
  iterate 3 refine aN rfl rfl (by constructor) ?_
  refine aLd st 1 rfl rfl rfl (by constructor) ?_
  refine ⟨?_, trivial⟩
  refine aSt st 0 rfl rfl rfl rfl (by first | rfl | simp [cellsOf, *]) (by first | decide | (simp [*]; done) | (simp [k8]; done)) (by repeat constructor) fun H3 st => ?_
  refine ⟨⟨(h_Ld st 1 rfl rfl rfl (by constructor)), trivial⟩, ?_⟩
  refine aN rfl rfl (by constructor) ?_
  refine pE ?_
  refine ⟨_, out2 (r_cellA st 0 rfl rfl (by first | decide | simp [*]) (by repeat constructor)) (r_tmp rfl (by constructor)) ⟨rfl, rfl⟩, ?_⟩
  exact .inl ⟨by simpa using h2, rfl, st.sel [1] (by decide)⟩
 ·show AWp _ _ _ _ _
  iterate 3 refine aN rfl rfl (by constructor) ?_
  refine aLdQ st 1 rfl rfl rfl (rfl : x = _) ?_
  iterate 3 refine aN rfl rfl (by constructor) ?_
  refine aLd st 1 rfl rfl rfl (by constructor) ?_
  iterate 3 refine aN rfl rfl (by constructor) ?_
  refine aLd st 1 rfl rfl rfl (by constructor) ?_
  refine ⟨?_, ?_⟩
  ·refine aC (pdec_call (st.slcX hx (by assumption)) hb (by omega)) fun v35 H4 ⟨ob35, hv, st1⟩ => ?_
   subst hv
   replace st := st.call st1 rfl
   clear st1
   refine ⟨trivial, ?_⟩
   iterate 4 refine aN rfl rfl (by constructor) ?_
   refine ⟨?_, trivial⟩
   refine aNewP st rfl rfl (by repeat constructor) fun b4 H5 st => ?_
   refine ⟨⟨(h_Ld st 3 rfl rfl rfl (by constructor)), (h_Ld st 3 rfl rfl rfl (by constructor)), (h_Ld st 3 rfl rfl rfl (by constructor)), trivial⟩, ?_⟩
   refine ⟨?_, trivial⟩
   refine aSt st 0 rfl rfl rfl rfl (by first | rfl | simp [cellsOf, *]) (by first | decide | (simp [*]; done) | (simp [k8]; done)) (by repeat constructor) fun H6 st => ?_
   refine ⟨trivial, ?_⟩
   iterate 2 refine aN rfl rfl (by constructor) ?_
   refine pE ?_
   show AWl _ _ _ _ _
   iterate 2 refine aN rfl rfl (by constructor) ?_
   refine sE ?_
   show AW _ (.cond _ _ _) _ _ _
   refine cC' rfl (fun h7 => ?_) (fun h7 => ?_)
   ·have h0 : decE k hd dt ≠ 0 := by simpa using h7
    show AWl _ _ _ _ _
    iterate 2 refine aN rfl rfl (by constructor) ?_
    refine sE ?_
    show AW _ (.cond _ _ _) _ _ _
    refine cC' rfl (fun h8 => ?_) (fun h8 => ?_)
    ·have h8 : decE k hd dt ≠ 8 := by simpa using h8
     show AWl _ _ _ _ _
     iterate 5 refine aN rfl rfl (by constructor) ?_
     refine aSt st 3 rfl rfl rfl rfl (by first | rfl | simp [cellsOf, *]) (by first | decide | (simp [*]; done) | (simp [k8]; done)) (by repeat constructor) fun H9 st => ?_
     iterate 2 refine aN rfl rfl (by constructor) ?_
     refine aSt st 3 rfl rfl rfl rfl (by first | rfl | simp [cellsOf, *]) (by first | decide | (simp [*]; done) | (simp [k8]; done)) (by repeat constructor) fun H10 st => ?_
     refine sE ?_
     show AWl _ _ _ _ _
     refine aBld rfl (by repeat constructor) ?_
     refine aN rfl rfl (by constructor) ?_
     refine aSt st 2 rfl rfl rfl rfl (by first | rfl | simp [cellsOf, *]) (by first | decide | (simp [*]; done) | (simp [k8]; done)) (by repeat constructor) fun H11 st => ?_
     refine aN rfl rfl (by constructor) ?_
     refine sE ?_
     refine ⟨_, out2 (r_cellA st 2 rfl rfl (by first | decide | simp [*]) (by repeat constructor)) (r_tmp rfl (by constructor)) ⟨rfl, rfl⟩, ?_⟩
     have hf0 : f = 0 := by simpa using h2
     subst hf0
     exact .inr (.inr (.inl ⟨rfl, h0, h8, rfl, st.sel [3] (by decide)⟩))
    ·have h8 : decE k hd dt = 8 := by simpa using h8
     show AWl _ _ _ _ _
     refine aBld rfl (by repeat constructor) ?_
     refine aN rfl rfl (by constructor) ?_
     refine aSt st 2 rfl rfl rfl rfl (by first | rfl | simp [cellsOf, *]) (by first | decide | (simp [*]; done) | (simp [k8]; done)) (by repeat constructor) fun H12 st => ?_
     refine aN rfl rfl (by constructor) ?_
     refine sE ?_
     refine ⟨_, out2 (r_cellA st 2 rfl rfl (by first | decide | simp [*]) (by repeat constructor)) (r_tmp rfl (by constructor)) ⟨rfl, rfl⟩, ?_⟩
     have hf0 : f = 0 := by simpa using h2
     subst hf0
     exact .inr (.inr (.inr ⟨rfl, h8, by rw [h8], st.sel [3] (by decide)⟩))
   ·have h0 : decE k hd dt = 0 := by simpa using h7
    have hdn := dec_len48 h0
    show AWl _ _ _ _ _
    iterate 4 refine aN rfl rfl (by constructor) ?_
    refine aLdQ st 3 rfl rfl rfl (rfl : x = _) ?_
    refine aN rfl rfl (by constructor) ?_
    refine aCutL (st.slcX hx (by assumption)) rfl rfl (by omega) fun v58 s58 => ?_
    iterate 2 refine aN rfl rfl (by constructor) ?_
    refine aStS (s58 _ (st.slcX hx (by assumption))) st 3 rfl rfl rfl (by first | decide | simp) fun H13 st => ?_
    refine sE ?_
    show AWl _ _ _ _ _
    refine aLdA st 0 rfl rfl (by first | decide | simp [*]) (by repeat constructor) ?_
    refine aSt st 2 rfl rfl rfl rfl (by first | rfl | simp [cellsOf, *]) (by first | decide | (simp [*]; done) | (simp [k8]; done)) (by repeat constructor) fun H14 st => ?_
    refine aN rfl rfl (by constructor) ?_
    refine sE ?_
    refine ⟨_, out2 (r_cellA st 2 rfl rfl (by first | decide | simp [*]) (by repeat constructor)) (r_tmp rfl (by constructor)) ⟨rfl, rfl⟩, ?_⟩
    have hf0 : f = 0 := by simpa using h2
    subst hf0
    exact .inr (.inl ⟨rfl, h0, ob35, v58, rfl, st.sel [3, 1] (by decide), fun H2 h2 => by have := s58 H2 h2; rw [List.length_drop]; exact this⟩)
  ·refine ⟨?_, trivial⟩
   refine aNewP st rfl rfl (by repeat constructor) fun b4 H15 st => ?_
   refine ⟨⟨(h_Ld st 2 rfl rfl rfl (by constructor)), (h_Ld st 2 rfl rfl rfl (by constructor)), (h_Ld st 2 rfl rfl rfl (by constructor)), trivial⟩, ?_⟩
   refine ⟨?_, trivial⟩
   refine aC (pdec_call (st.slcX hx (by assumption)) hb (by omega)) fun v35 H16 ⟨ob35, hv, st1⟩ => ?_
   subst hv
   replace st := st.call st1 rfl
   clear st1
   refine ⟨trivial, ?_⟩
   iterate 4 refine aN rfl rfl (by constructor) ?_
   refine ⟨?_, trivial⟩
   refine aSt st 1 rfl rfl rfl rfl (by first | rfl | simp [cellsOf, *]) (by first | decide | (simp [*]; done) | (simp [k8]; done)) (by repeat constructor) fun H17 st => ?_
   refine ⟨trivial, ?_⟩
   iterate 2 refine aN rfl rfl (by constructor) ?_
   refine pE ?_
   show AWl _ _ _ _ _
   iterate 2 refine aN rfl rfl (by constructor) ?_
   refine sE ?_
   show AW _ (.cond _ _ _) _ _ _
   refine cC' rfl (fun h18 => ?_) (fun h18 => ?_)
   ·have h0 : decE k hd dt ≠ 0 := by simpa using h18
    show AWl _ _ _ _ _
    iterate 2 refine aN rfl rfl (by constructor) ?_
    refine sE ?_
    show AW _ (.cond _ _ _) _ _ _
    refine cC' rfl (fun h19 => ?_) (fun h19 => ?_)
    ·have h8 : decE k hd dt ≠ 8 := by simpa using h19
     show AWl _ _ _ _ _
     iterate 5 refine aN rfl rfl (by constructor) ?_
     refine aSt st 3 rfl rfl rfl rfl (by first | rfl | simp [cellsOf, *]) (by first | decide | (simp [*]; done) | (simp [k8]; done)) (by repeat constructor) fun H20 st => ?_
     iterate 2 refine aN rfl rfl (by constructor) ?_
     refine aSt st 3 rfl rfl rfl rfl (by first | rfl | simp [cellsOf, *]) (by first | decide | (simp [*]; done) | (simp [k8]; done)) (by repeat constructor) fun H21 st => ?_
     refine sE ?_
     show AWl _ _ _ _ _
     refine aBld rfl (by repeat constructor) ?_
     refine aN rfl rfl (by constructor) ?_
     refine aSt st 2 rfl rfl rfl rfl (by first | rfl | simp [cellsOf, *]) (by first | decide | (simp [*]; done) | (simp [k8]; done)) (by repeat constructor) fun H22 st => ?_
     refine aN rfl rfl (by constructor) ?_
     refine sE ?_
     refine ⟨_, out2 (r_cellA st 2 rfl rfl (by first | decide | simp [*]) (by repeat constructor)) (r_tmp rfl (by constructor)) ⟨rfl, rfl⟩, ?_⟩
     have hf0 : f = 0 := by simpa using h2
     subst hf0
     exact .inr (.inr (.inl ⟨rfl, h0, h8, rfl, st.sel [3] (by decide)⟩))
    ·have h8 : decE k hd dt = 8 := by simpa using h19
     show AWl _ _ _ _ _
     refine aBld rfl (by repeat constructor) ?_
     refine aN rfl rfl (by constructor) ?_
     refine aSt st 2 rfl rfl rfl rfl (by first | rfl | simp [cellsOf, *]) (by first | decide | (simp [*]; done) | (simp [k8]; done)) (by repeat constructor) fun H23 st => ?_
     refine aN rfl rfl (by constructor) ?_
     refine sE ?_
     refine ⟨_, out2 (r_cellA st 2 rfl rfl (by first | decide | simp [*]) (by repeat constructor)) (r_tmp rfl (by constructor)) ⟨rfl, rfl⟩, ?_⟩
     have hf0 : f = 0 := by simpa using h2
     subst hf0
     exact .inr (.inr (.inr ⟨rfl, h8, by rw [h8], st.sel [3] (by decide)⟩))
   ·have h0 : decE k hd dt = 0 := by simpa using h18
    have hdn := dec_len48 h0
    show AWl _ _ _ _ _
    iterate 4 refine aN rfl rfl (by constructor) ?_
    refine aLdQ st 3 rfl rfl rfl (rfl : x = _) ?_
    refine aN rfl rfl (by constructor) ?_
    refine aCutL (st.slcX hx (by assumption)) rfl rfl (by omega) fun v58 s58 => ?_
    iterate 2 refine aN rfl rfl (by constructor) ?_
    refine aStS (s58 _ (st.slcX hx (by assumption))) st 3 rfl rfl rfl (by first | decide | simp) fun H24 st => ?_
    refine sE ?_
    show AWl _ _ _ _ _
    refine aLdA st 1 rfl rfl (by first | decide | simp [*]) (by repeat constructor) ?_
    refine aSt st 2 rfl rfl rfl rfl (by first | rfl | simp [cellsOf, *]) (by first | decide | (simp [*]; done) | (simp [k8]; done)) (by repeat constructor) fun H25 st => ?_
    refine aN rfl rfl (by constructor) ?_
    refine sE ?_
    refine ⟨_, out2 (r_cellA st 2 rfl rfl (by first | decide | simp [*]) (by repeat constructor)) (r_tmp rfl (by constructor)) ⟨rfl, rfl⟩, ?_⟩
    have hf0 : f = 0 := by simpa using h2
    subst hf0
    exact .inr (.inl ⟨rfl, h0, ob35, v58, rfl, st.sel [3, 0] (by decide), fun H2 h2 => by have := s58 H2 h2; rw [List.length_drop]; exact this⟩)
end Go.Proofs.Ytfjlniemgmimnaa.Abs
