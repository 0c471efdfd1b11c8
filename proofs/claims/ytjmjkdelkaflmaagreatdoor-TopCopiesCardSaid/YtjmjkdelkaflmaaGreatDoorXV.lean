/- A unit writes and reads blocks. -/
import Derived.Test.YtjmjkdelkaflmaaGreatDoorXI
import Derived.Test.YtjmjkdelkaflmaaGreatDoorXT
import Derived.Test.YtjmjkdelkaflmaaGreatDoorXU
set_option linter.unusedVariables false
set_option linter.unusedSimpArgs false
set_option maxRecDepth 100000
namespace Go.Proofs.YtjmjkdelkaflmaaGreatDoor.Abs
open Go Go.RowKit
theorem Stt.call5 {X : List Nat} {H0 H H' : Hp} {L L' : List Ent} {o1 o2 o3 o4 o5 : Option Nat} {k1 k2 k3 k4 k5 : Blk} (st : Stt X H0 H L) (i1 i2 i3 i4 i5 : Nat) (h1 : L[i1]? = some ⟨o1, true, k1⟩) (h2 : (L.eraseIdx i1)[i2]? = some ⟨o2, true, k2⟩) (h3 : ((L.eraseIdx i1).eraseIdx i2)[i3]? = some ⟨o3, true, k3⟩) (h4 : (((L.eraseIdx i1).eraseIdx i2).eraseIdx i3)[i4]? = some ⟨o4, true, k4⟩) (h5 : ((((L.eraseIdx i1).eraseIdx i2).eraseIdx i3).eraseIdx i4)[i5]? = some ⟨o5, true, k5⟩) (h : Stt ((((o1.toList ++ o2.toList) ++ o3.toList) ++ o4.toList) ++ o5.toList) H H' L') (ho : L'.all (·.ok) = true) : Stt X H0 H' (L' ++ (((((L.eraseIdx i1).eraseIdx i2).eraseIdx i3).eraseIdx i4).eraseIdx i5)) := by
  have e1 : ∀ p ∈ (L.eraseIdx i1), p ∈ L ∧ ∀ c ∈ o1.toList, p.key ≠ some c := fun p hp => erase_ne st h1 p hp
  have e2 : ∀ p ∈ ((L.eraseIdx i1).eraseIdx i2), p ∈ L ∧ ∀ c ∈ (o1.toList ++ o2.toList), p.key ≠ some c := fun p hp => by
    obtain ⟨a, b⟩ := erase_ne (st.erase i1) h2 p hp
    obtain ⟨c1, c2⟩ := e1 p a
    exact ⟨c1, fun c hc => (List.mem_append.1 hc).elim (c2 c) (b c)⟩
  have e3 : ∀ p ∈ (((L.eraseIdx i1).eraseIdx i2).eraseIdx i3), p ∈ L ∧ ∀ c ∈ ((o1.toList ++ o2.toList) ++ o3.toList), p.key ≠ some c := fun p hp => by
    obtain ⟨a, b⟩ := erase_ne ((st.erase i1).erase i2) h3 p hp
    obtain ⟨c1, c2⟩ := e2 p a
    exact ⟨c1, fun c hc => (List.mem_append.1 hc).elim (c2 c) (b c)⟩
  have e4 : ∀ p ∈ ((((L.eraseIdx i1).eraseIdx i2).eraseIdx i3).eraseIdx i4), p ∈ L ∧ ∀ c ∈ (((o1.toList ++ o2.toList) ++ o3.toList) ++ o4.toList), p.key ≠ some c := fun p hp => by
    obtain ⟨a, b⟩ := erase_ne (((st.erase i1).erase i2).erase i3) h4 p hp
    obtain ⟨c1, c2⟩ := e3 p a
    exact ⟨c1, fun c hc => (List.mem_append.1 hc).elim (c2 c) (b c)⟩
  have e5 : ∀ p ∈ (((((L.eraseIdx i1).eraseIdx i2).eraseIdx i3).eraseIdx i4).eraseIdx i5), p ∈ L ∧ ∀ c ∈ ((((o1.toList ++ o2.toList) ++ o3.toList) ++ o4.toList) ++ o5.toList), p.key ≠ some c := fun p hp => by
    obtain ⟨a, b⟩ := erase_ne ((((st.erase i1).erase i2).erase i3).erase i4) h5 p hp
    obtain ⟨c1, c2⟩ := e4 p a
    exact ⟨c1, fun c hc => (List.mem_append.1 hc).elim (c2 c) (b c)⟩
  refine st.callY h ho (fun c hc => ?_) e5 ((((((st.erase i1).erase i2).erase i3).erase i4).erase i5).dis)
  refine (List.mem_append.1 hc).elim (fun hc => ?_) (fun hc => ⟨_, (e4 _ (List.mem_of_getElem? h5)).1, rfl, by simpa using hc⟩)
  refine (List.mem_append.1 hc).elim (fun hc => ?_) (fun hc => ⟨_, (e3 _ (List.mem_of_getElem? h4)).1, rfl, by simpa using hc⟩)
  refine (List.mem_append.1 hc).elim (fun hc => ?_) (fun hc => ⟨_, (e2 _ (List.mem_of_getElem? h3)).1, rfl, by simpa using hc⟩)
  refine (List.mem_append.1 hc).elim (fun hc => ?_) (fun hc => ⟨_, (e1 _ (List.mem_of_getElem? h2)).1, rfl, by simpa using hc⟩)
  exact ⟨_, List.mem_of_getElem? h1, rfl, by simpa using hc⟩
theorem urun_w0 {H : Hp} {s w sb db lba nb nw n : Nat} {wb ob xb : Option Nat} {c : List (Value × Value)} {cs : List Value} {nm : ByteArray} {fs : List (Option Bk)} {xs : List Int} {ops stop : Int} {u : Nat} {i0 i1 i2 i3 : ByteArray} {dv k pg tb q : Nat} {pe : Value} {ct : Int} (st0 : Stt ([w] ++ [sb] ++ wb.toList) H H [⟨some w, true, zW sb db (accV wb nw 5) ops stop⟩, ⟨some sb, true, ⟨true, .mp c, []⟩⟩, ⟨wb, true, ⟨true, 121, cs⟩⟩, ⟨some u, false, ⟨true, 103, [.string i0, .string i1, .string i2, .string i3, .int .u8 0, zP dv, zP k, zP pg, zP tb, zP q, pe, .int .u32 1, .int .i32 0, .int .u32 0, .int .i64 0, .int .i64 ct]⟩⟩, ⟨ob, false, ⟨true, 5, (fileL fs).map (Value.int .u8)⟩⟩, ⟨some s, false, zS w nm (nb : Int)⟩, ⟨some dv, false, zD s 0⟩, ⟨xb, false, ⟨true, 5, xs.map (Value.int .u8)⟩⟩]) (hbx : ByteL xs) (hxl : xs.length = 16 * n) (hn1 : 1 ≤ nm.size) (hn2 : nm.size ≤ 32) (hcs : cs.length = nw * 5) (hnw : nw + n ≤ 1000000) (hn0 : 0 < n) (hF : FileAt c nm ob fs) (hfs : FsOk fs) (hnb : (nb : Int) ≤ 255) (hlba : (lba : Int) + (n : Int) ≤ (nb : Int)) (hfl4 : fs.length ≤ nb) (ho : 0 ≤ ops ∧ ops ≤ 900000000) (hs : ∀ i : Nat, i < n → ops + (i : Int) ≠ stop) :
  ACalls Tryz.prog 29 [zP u, .int .i64 1, .agg #[.int .u8 8, .bool false, .int .u64 (lba : Int), .int .u64 (n : Int), .int .i64 0, .bool false, .int .u8 0, .bool false, .bool false, .int .u8 0, .int .u8 0, .bool false, .int .u8 0, .int .u8 0, .bool false], accV xb xs.length 1] H (fun v H' => ∃ wb1 ob1 c1 cs1, v = zR ∧ cs1.length = (nw + n) * 5 ∧ FileAt c1 nm ob1 (setN fs lba (mkN 0 lba (unL false xs) n) n) ∧ (∀ n2 u2, n2 ≠ nm → Found c n2 u2 → Found c1 n2 u2) ∧ Stt ([w] ++ [sb] ++ wb.toList) H H' [⟨some w, true, zW sb db (accV wb1 (nw + n) 5) (ops + (n : Int)) stop⟩, ⟨some sb, true, ⟨true, .mp c1, []⟩⟩, ⟨wb1, true, ⟨true, 121, cs1⟩⟩, ⟨ob1, true, ⟨true, 5, (fileL (setN fs lba (mkN 0 lba (unL false xs) n) n)).map (Value.int .u8)⟩⟩]) := by
 refine acallsW Tryz.func29 f29_ok (Nat.le_of_ble_eq_true rfl) fun hw => ?_
 have st : Stt ([w] ++ [sb] ++ wb.toList) H H [] := Stt.start hw
 replace st := st0
 unfold f29c
 refine zw ?_
 refine aBoxN st rfl rfl (by repeat constructor) rfl fun b6 H1 st => ?_
 refine zp st fun b8 H2 st => ?_
 refine zw ?_
 refine zm ?_
 refine zl st 1 ?_
 refine zw ?_
 refine zb (.bool false) ?_
 refine zm ?_
 refine zf ?_
 refine zw ?_
 refine zb (.bool false) ?_
 refine zm ?_
 refine zf ?_
 refine zw ?_
 refine zb (.bool false) ?_
 refine zm ?_
 refine zf ?_
 refine zw ?_
 refine zb (.bool false) ?_
 refine zm ?_
 refine zf ?_
 refine zw ?_
 refine zb (.bool false) ?_
 refine zm ?_
 refine zf ?_
 refine zw ?_
 refine zb (.bool false) ?_
 refine zm ?_
 refine zf ?_
 refine zw ?_
 refine zb (.bool false) ?_
 refine zm ?_
 refine zf ?_
 refine zw ?_
 refine zb (.bool false) ?_
 refine zm ?_
 refine zf ?_
 refine zw ?_
 refine zb (.bool false) ?_
 refine zm ?_
 refine zf ?_
 show AWp _ _ _ _ _
 iterate 3 refine zm ?_
 refine zl st 5 ?_
 refine aLdA st 1 rfl rfl (by first | decide | simp [*]) (by repeat constructor) ?_
 refine aMovA rfl ?_
 refine ⟨?_, trivial⟩
 refine aC (dowrite_all.1 (zN st [2, 3, 4] [6, 7, 8, 9]) hbx hxl hn1 hn2 hcs hnw hn0 hF hfs (by omega) hlba hfl4 ho hs) fun v150 H3 ⟨wb1, ob1, c1, cs1, hv, hcs1, hF1, hO1, st1⟩ => ?_
 subst hv
 replace st := st.call3 (o1 := some w) (o2 := some sb) (o3 := wb) 2 2 2 rfl rfl rfl st1 rfl
 clear st1
 refine ⟨trivial, ?_⟩
 refine ⟨?_, trivial⟩
 refine zx st 4 fun H4 st => ?_
 refine ⟨trivial, ?_⟩
 refine pE ?_
 refine ⟨_, out1 (zc st 4), ?_⟩
 exact ⟨wb1, ob1, c1, cs1, rfl, hcs1, hF1, hO1, st.sel [0, 1, 2, 3] (by decide)⟩
theorem urun_w1 {H : Hp} {s w sb db lba nb nw n : Nat} {wb ob xb : Option Nat} {c : List (Value × Value)} {cs : List Value} {nm : ByteArray} {fs : List (Option Bk)} {xs : List Int} {ops stop : Int} {u : Nat} {i0 i1 i2 i3 : ByteArray} {dv k pg tb q : Nat} {pe : Value} {ct : Int} (st0 : Stt ([w] ++ [sb] ++ wb.toList) H H [⟨some w, true, zW sb db (accV wb nw 5) ops stop⟩, ⟨some sb, true, ⟨true, .mp c, []⟩⟩, ⟨wb, true, ⟨true, 121, cs⟩⟩, ⟨some u, false, ⟨true, 103, [.string i0, .string i1, .string i2, .string i3, .int .u8 1, zP dv, zP k, zP pg, zP tb, zP q, pe, .int .u32 1, .int .i32 0, .int .u32 0, .int .i64 0, .int .i64 ct]⟩⟩, ⟨ob, false, ⟨true, 5, (fileL fs).map (Value.int .u8)⟩⟩, ⟨some s, false, zS w nm (nb : Int)⟩, ⟨some dv, false, zD s 1⟩, ⟨xb, false, ⟨true, 5, xs.map (Value.int .u8)⟩⟩]) (hbx : ByteL xs) (hxl : xs.length = 16 * n) (hn1 : 1 ≤ nm.size) (hn2 : nm.size ≤ 32) (hcs : cs.length = nw * 5) (hnw : nw + n ≤ 1000000) (hn0 : 0 < n) (hF : FileAt c nm ob fs) (hfs : FsOk fs) (hnb : (nb : Int) ≤ 255) (hlba : (lba : Int) + (n : Int) ≤ (nb : Int)) (hfl4 : fs.length ≤ nb) (ho : 0 ≤ ops ∧ ops ≤ 900000000) (hs : ∀ i : Nat, i < n → ops + (i : Int) ≠ stop) :
  ACalls Tryz.prog 29 [zP u, .int .i64 1, .agg #[.int .u8 8, .bool false, .int .u64 (lba : Int), .int .u64 (n : Int), .int .i64 0, .bool false, .int .u8 0, .bool false, .bool false, .int .u8 0, .int .u8 0, .bool false, .int .u8 0, .int .u8 0, .bool false], accV xb xs.length 1] H (fun v H' => ∃ wb1 ob1 c1 cs1, v = zR ∧ cs1.length = (nw + n) * 5 ∧ FileAt c1 nm ob1 (setN fs lba (mkN 1 lba (unL false xs) n) n) ∧ (∀ n2 u2, n2 ≠ nm → Found c n2 u2 → Found c1 n2 u2) ∧ Stt ([w] ++ [sb] ++ wb.toList) H H' [⟨some w, true, zW sb db (accV wb1 (nw + n) 5) (ops + (n : Int)) stop⟩, ⟨some sb, true, ⟨true, .mp c1, []⟩⟩, ⟨wb1, true, ⟨true, 121, cs1⟩⟩, ⟨ob1, true, ⟨true, 5, (fileL (setN fs lba (mkN 1 lba (unL false xs) n) n)).map (Value.int .u8)⟩⟩]) := by
 refine acallsW Tryz.func29 f29_ok (Nat.le_of_ble_eq_true rfl) fun hw => ?_
 have st : Stt ([w] ++ [sb] ++ wb.toList) H H [] := Stt.start hw
 replace st := st0
 unfold f29c
 refine zw ?_
 refine aBoxN st rfl rfl (by repeat constructor) rfl fun b6 H1 st => ?_
 refine zp st fun b8 H2 st => ?_
 refine zw ?_
 refine zm ?_
 refine zl st 1 ?_
 refine zw ?_
 refine zb (.bool false) ?_
 refine zm ?_
 refine zf ?_
 refine zw ?_
 refine zb (.bool false) ?_
 refine zm ?_
 refine zf ?_
 refine zw ?_
 refine zb (.bool false) ?_
 refine zm ?_
 refine zf ?_
 refine zw ?_
 refine zb (.bool false) ?_
 refine zm ?_
 refine zf ?_
 refine zw ?_
 refine zb (.bool false) ?_
 refine zm ?_
 refine zf ?_
 refine zw ?_
 refine zb (.bool false) ?_
 refine zm ?_
 refine zf ?_
 refine zw ?_
 refine zb (.bool false) ?_
 refine zm ?_
 refine zf ?_
 refine zw ?_
 refine zb (.bool false) ?_
 refine zm ?_
 refine zf ?_
 refine zw ?_
 refine zb (.bool false) ?_
 refine zm ?_
 refine zf ?_
 show AWp _ _ _ _ _
 iterate 3 refine zm ?_
 refine zl st 5 ?_
 refine aLdA st 1 rfl rfl (by first | decide | simp [*]) (by repeat constructor) ?_
 refine aMovA rfl ?_
 refine ⟨?_, trivial⟩
 refine aC (dowrite_all.2 (zN st [2, 3, 4] [6, 7, 8, 9]) hbx hxl hn1 hn2 hcs hnw hn0 hF hfs (by omega) hlba hfl4 ho hs) fun v150 H3 ⟨wb1, ob1, c1, cs1, hv, hcs1, hF1, hO1, st1⟩ => ?_
 subst hv
 replace st := st.call3 (o1 := some w) (o2 := some sb) (o3 := wb) 2 2 2 rfl rfl rfl st1 rfl
 clear st1
 refine ⟨trivial, ?_⟩
 refine ⟨?_, trivial⟩
 refine zx st 4 fun H4 st => ?_
 refine ⟨trivial, ?_⟩
 refine pE ?_
 refine ⟨_, out1 (zc st 4), ?_⟩
 exact ⟨wb1, ob1, c1, cs1, rfl, hcs1, hF1, hO1, st.sel [0, 1, 2, 3] (by decide)⟩
theorem urun_r0 {H : Hp} {s w sb db lba n nb : Nat} {wv : Value} {ob : Option Nat} {c : List (Value × Value)} {nm : ByteArray} {fs : List (Option Bk)} {ops stop : Int} {u : Nat} {i0 i1 i2 i3 : ByteArray} {dv k pg tb q : Nat} {pe : Value} {ct : Int} (st0 : Stt [w] H H [⟨some w, true, zW sb db wv ops stop⟩, ⟨some u, false, ⟨true, 103, [.string i0, .string i1, .string i2, .string i3, .int .u8 0, zP dv, zP k, zP pg, zP tb, zP q, pe, .int .u32 1, .int .i32 0, .int .u32 0, .int .i64 0, .int .i64 ct]⟩⟩, ⟨some sb, false, ⟨true, .mp c, []⟩⟩, ⟨ob, false, ⟨true, 5, (fileL fs).map (Value.int .u8)⟩⟩, ⟨some s, false, zS w nm (nb : Int)⟩, ⟨some dv, false, zD s 0⟩]) (hn1 : 1 ≤ nm.size) (hn2 : nm.size ≤ 32) (hF : FileAt c nm ob fs) (hfs : FsOk fs) (hnb : (nb : Int) ≤ 255) (hlba : (lba : Int) + (n : Int) ≤ (nb : Int)) (hfl4 : fs.length ≤ 4096) (ho : 0 ≤ ops ∧ ops ≤ 900000000) (hs : ∀ i : Nat, i < n → ops + (i : Int) ≠ stop) (hgood : ∀ i, i < n → GoodB 0 (lba + i) (blkAt fs (lba + i))) :
  ACalls Tryz.prog 29 [zP u, .int .i64 0, .agg #[.int .u8 7, .bool false, .int .u64 (lba : Int), .int .u64 (n : Int), .int .i64 0, .bool false, .int .u8 0, .bool false, .bool false, .int .u8 0, .int .u8 0, .bool false, .int .u8 0, .int .u8 0, .bool false], .slice none 0 0] H (fun v H' => ∃ pp, v = .agg #[.int .u8 0, .int .u8 0, .int .u16 0, .int .u64 0, .bool false, .int .i64 0, .int .i64 0, .bool false, .bool false, accV pp (pkL false (bsR fs lba n)).length 1] ∧ Stt [w] H H' [⟨some w, true, zW sb db wv (ops + (n : Int)) stop⟩, ⟨pp, true, ⟨true, 5, (pkL false (bsR fs lba n)).map (Value.int .u8)⟩⟩]) := by
 refine acallsW Tryz.func29 f29_ok (Nat.le_of_ble_eq_true rfl) fun hw => ?_
 have st : Stt [w] H H [] := Stt.start hw
 replace st := st0
 unfold f29c
 refine zw ?_
 refine aBoxN st rfl rfl (by repeat constructor) rfl fun b6 H1 st => ?_
 refine zp st fun b8 H2 st => ?_
 refine zw ?_
 refine zm ?_
 refine zl st 1 ?_
 refine zw ?_
 refine zb (.bool false) ?_
 refine zm ?_
 refine zf ?_
 refine zw ?_
 refine zb (.bool false) ?_
 refine zm ?_
 refine zf ?_
 refine zw ?_
 refine zb (.bool false) ?_
 refine zm ?_
 refine zf ?_
 refine zw ?_
 refine zb (.bool false) ?_
 refine zm ?_
 refine zf ?_
 refine zw ?_
 refine zb (.bool false) ?_
 refine zm ?_
 refine zf ?_
 refine zw ?_
 refine zb (.bool false) ?_
 refine zm ?_
 refine zf ?_
 refine zw ?_
 refine zb (.bool false) ?_
 refine zm ?_
 refine zf ?_
 refine zw ?_
 refine zb (.bool false) ?_
 refine zm ?_
 refine zf ?_
 refine zw ?_
 refine zb (.bool false) ?_
 refine zm ?_
 refine zf ?_
 show AWp _ _ _ _ _
 iterate 3 refine zm ?_
 refine zl st 3 ?_
 refine aLdA st 1 rfl rfl (by first | decide | simp [*]) (by repeat constructor) ?_
 refine zm ?_
 refine ⟨?_, trivial⟩
 refine aC (doread_all.1 (zN st [2] [4, 5, 6, 7]) hn1 hn2 hF hfs (by omega) hlba hfl4 ho hs hgood) fun v150 H3 ⟨pp, hv, st1⟩ => ?_
 subst hv
 replace st := st.callT (ob := some w) 2 rfl st1 rfl
 clear st1
 refine ⟨trivial, ?_⟩
 refine ⟨?_, trivial⟩
 refine zx st 2 fun H4 st => ?_
 refine ⟨trivial, ?_⟩
 refine pE ?_
 refine ⟨_, out1 (zc st 2), ?_⟩
 exact ⟨pp, rfl, st.sel [0, 1] (by decide)⟩
theorem urun_r1 {H : Hp} {s w sb db lba n nb : Nat} {wv : Value} {ob : Option Nat} {c : List (Value × Value)} {nm : ByteArray} {fs : List (Option Bk)} {ops stop : Int} {u : Nat} {i0 i1 i2 i3 : ByteArray} {dv k pg tb q : Nat} {pe : Value} {ct : Int} (st0 : Stt [w] H H [⟨some w, true, zW sb db wv ops stop⟩, ⟨some u, false, ⟨true, 103, [.string i0, .string i1, .string i2, .string i3, .int .u8 1, zP dv, zP k, zP pg, zP tb, zP q, pe, .int .u32 1, .int .i32 0, .int .u32 0, .int .i64 0, .int .i64 ct]⟩⟩, ⟨some sb, false, ⟨true, .mp c, []⟩⟩, ⟨ob, false, ⟨true, 5, (fileL fs).map (Value.int .u8)⟩⟩, ⟨some s, false, zS w nm (nb : Int)⟩, ⟨some dv, false, zD s 1⟩]) (hn1 : 1 ≤ nm.size) (hn2 : nm.size ≤ 32) (hF : FileAt c nm ob fs) (hfs : FsOk fs) (hnb : (nb : Int) ≤ 255) (hlba : (lba : Int) + (n : Int) ≤ (nb : Int)) (hfl4 : fs.length ≤ 4096) (ho : 0 ≤ ops ∧ ops ≤ 900000000) (hs : ∀ i : Nat, i < n → ops + (i : Int) ≠ stop) (hgood : ∀ i, i < n → GoodB 1 (lba + i) (blkAt fs (lba + i))) :
  ACalls Tryz.prog 29 [zP u, .int .i64 0, .agg #[.int .u8 7, .bool false, .int .u64 (lba : Int), .int .u64 (n : Int), .int .i64 0, .bool false, .int .u8 0, .bool false, .bool false, .int .u8 0, .int .u8 0, .bool false, .int .u8 0, .int .u8 0, .bool false], .slice none 0 0] H (fun v H' => ∃ pp, v = .agg #[.int .u8 0, .int .u8 0, .int .u16 0, .int .u64 0, .bool false, .int .i64 0, .int .i64 0, .bool false, .bool false, accV pp (pkL false (bsR fs lba n)).length 1] ∧ Stt [w] H H' [⟨some w, true, zW sb db wv (ops + (n : Int)) stop⟩, ⟨pp, true, ⟨true, 5, (pkL false (bsR fs lba n)).map (Value.int .u8)⟩⟩]) := by
 refine acallsW Tryz.func29 f29_ok (Nat.le_of_ble_eq_true rfl) fun hw => ?_
 have st : Stt [w] H H [] := Stt.start hw
 replace st := st0
 unfold f29c
 refine zw ?_
 refine aBoxN st rfl rfl (by repeat constructor) rfl fun b6 H1 st => ?_
 refine zp st fun b8 H2 st => ?_
 refine zw ?_
 refine zm ?_
 refine zl st 1 ?_
 refine zw ?_
 refine zb (.bool false) ?_
 refine zm ?_
 refine zf ?_
 refine zw ?_
 refine zb (.bool false) ?_
 refine zm ?_
 refine zf ?_
 refine zw ?_
 refine zb (.bool false) ?_
 refine zm ?_
 refine zf ?_
 refine zw ?_
 refine zb (.bool false) ?_
 refine zm ?_
 refine zf ?_
 refine zw ?_
 refine zb (.bool false) ?_
 refine zm ?_
 refine zf ?_
 refine zw ?_
 refine zb (.bool false) ?_
 refine zm ?_
 refine zf ?_
 refine zw ?_
 refine zb (.bool false) ?_
 refine zm ?_
 refine zf ?_
 refine zw ?_
 refine zb (.bool false) ?_
 refine zm ?_
 refine zf ?_
 refine zw ?_
 refine zb (.bool false) ?_
 refine zm ?_
 refine zf ?_
 show AWp _ _ _ _ _
 iterate 3 refine zm ?_
 refine zl st 3 ?_
 refine aLdA st 1 rfl rfl (by first | decide | simp [*]) (by repeat constructor) ?_
 refine zm ?_
 refine ⟨?_, trivial⟩
 refine aC (doread_all.2 (zN st [2] [4, 5, 6, 7]) hn1 hn2 hF hfs (by omega) hlba hfl4 ho hs hgood) fun v150 H3 ⟨pp, hv, st1⟩ => ?_
 subst hv
 replace st := st.callT (ob := some w) 2 rfl st1 rfl
 clear st1
 refine ⟨trivial, ?_⟩
 refine ⟨?_, trivial⟩
 refine zx st 2 fun H4 st => ?_
 refine ⟨trivial, ?_⟩
 refine pE ?_
 refine ⟨_, out1 (zc st 2), ?_⟩
 exact ⟨pp, rfl, st.sel [0, 1] (by decide)⟩
theorem tag1_do_w_all (a : Nat) {p : Prop} (h : a = a → p) : p := h rfl
set_option maxHeartbeats 8000000 in
theorem do_w_all : (∀ {H : Hp} {s w sb db lba nb nw n : Nat} {wb ob xb : Option Nat} {c : List (Value × Value)} {cs : List Value} {nm : ByteArray} {fs : List (Option Bk)} {xs : List Int} {ops stop : Int} {u cb : Nat} {o : Option Nat} {qs : List Value} {i0 i1 i2 i3 : ByteArray} {dv k pg tb q : Nat} {pe : Value} {ct : Int} (st0 : Stt ([w] ++ [sb] ++ wb.toList ++ [u]) H H [⟨some w, true, zW sb db (accV wb nw 5) ops stop⟩, ⟨some sb, true, ⟨true, .mp c, []⟩⟩, ⟨wb, true, ⟨true, 121, cs⟩⟩, ⟨some u, true, ⟨true, 103, [.string i0, .string i1, .string i2, .string i3, .int .u8 0, zP dv, zP k, zP pg, zP tb, zP q, pe, .int .u32 1, .int .i32 0, .int .u32 0, .int .i64 0, .int .i64 ct]⟩⟩, ⟨ob, false, ⟨true, 5, (fileL fs).map (Value.int .u8)⟩⟩, ⟨some s, false, zS w nm (nb : Int)⟩, ⟨some dv, false, zD s 0⟩, ⟨some q, false, ⟨true, 154, qs⟩⟩, ⟨o, false, ⟨true, 23, []⟩⟩, ⟨some tb, false, zT⟩, ⟨some pg, false, zG⟩, ⟨some cb, false, ⟨true, 5, ([138, 0, 0, 0, 0, 0, 0, 0, 0, (lba : Int), 0, 0, 0, (n : Int), 0, 0] : List Int).map (Value.int .u8)⟩⟩, ⟨xb, false, ⟨true, 5, xs.map (Value.int .u8)⟩⟩]) (hbx : ByteL xs) (hxl : xs.length = 16 * n) (hn1 : 1 ≤ nm.size) (hn2 : nm.size ≤ 32) (hcs : cs.length = nw * 5) (hnw : nw + n ≤ 1000000) (hn0 : 0 < n) (hF : FileAt c nm ob fs) (hfs : FsOk fs) (hnb : (nb : Int) ≤ 255) (hlba : (lba : Int) + (n : Int) ≤ (nb : Int)) (hfl4 : fs.length ≤ nb) (ho : 0 ≤ ops ∧ ops ≤ 900000000) (hs : ∀ i : Nat, i < n → ops + (i : Int) ≠ stop) (hl : qs.length = 8) (hq : qs[1]? = some (accV o 0 1)), ACalls Tryz.prog 12 [zP u, .int .i64 1, .slice (some ⟨cb, 0, none⟩) 16 1, accV xb xs.length 1] H (fun v H' => ∃ wb1 ob1 c1 cs1 ct9, v = zR ∧ cs1.length = (nw + n) * 5 ∧ FileAt c1 nm ob1 (setN fs lba (mkN 0 lba (unL false xs) n) n) ∧ (∀ n2 u2, n2 ≠ nm → Found c n2 u2 → Found c1 n2 u2) ∧ Stt ([w] ++ [sb] ++ wb.toList ++ [u]) H H' [⟨some w, true, zW sb db (accV wb1 (nw + n) 5) (ops + (n : Int)) stop⟩, ⟨some sb, true, ⟨true, .mp c1, []⟩⟩, ⟨wb1, true, ⟨true, 121, cs1⟩⟩, ⟨ob1, true, ⟨true, 5, (fileL (setN fs lba (mkN 0 lba (unL false xs) n) n)).map (Value.int .u8)⟩⟩, ⟨some u, true, ⟨true, 103, [.string i0, .string i1, .string i2, .string i3, .int .u8 0, zP dv, zP k, zP pg, zP tb, zP q, pe, .int .u32 1, .int .i32 0, .int .u32 0, .int .i64 0, .int .i64 ct9]⟩⟩])) ∧
  (∀ {H : Hp} {s w sb db lba nb nw n : Nat} {wb ob xb : Option Nat} {c : List (Value × Value)} {cs : List Value} {nm : ByteArray} {fs : List (Option Bk)} {xs : List Int} {ops stop : Int} {u cb : Nat} {o : Option Nat} {qs : List Value} {i0 i1 i2 i3 : ByteArray} {dv k pg tb q : Nat} {pe : Value} {ct : Int} (st0 : Stt ([w] ++ [sb] ++ wb.toList ++ [u]) H H [⟨some w, true, zW sb db (accV wb nw 5) ops stop⟩, ⟨some sb, true, ⟨true, .mp c, []⟩⟩, ⟨wb, true, ⟨true, 121, cs⟩⟩, ⟨some u, true, ⟨true, 103, [.string i0, .string i1, .string i2, .string i3, .int .u8 1, zP dv, zP k, zP pg, zP tb, zP q, pe, .int .u32 1, .int .i32 0, .int .u32 0, .int .i64 0, .int .i64 ct]⟩⟩, ⟨ob, false, ⟨true, 5, (fileL fs).map (Value.int .u8)⟩⟩, ⟨some s, false, zS w nm (nb : Int)⟩, ⟨some dv, false, zD s 1⟩, ⟨some q, false, ⟨true, 154, qs⟩⟩, ⟨o, false, ⟨true, 23, []⟩⟩, ⟨some tb, false, zT⟩, ⟨some pg, false, zG⟩, ⟨some cb, false, ⟨true, 5, ([138, 0, 0, 0, 0, 0, 0, 0, 0, (lba : Int), 0, 0, 0, (n : Int), 0, 0] : List Int).map (Value.int .u8)⟩⟩, ⟨xb, false, ⟨true, 5, xs.map (Value.int .u8)⟩⟩]) (hbx : ByteL xs) (hxl : xs.length = 16 * n) (hn1 : 1 ≤ nm.size) (hn2 : nm.size ≤ 32) (hcs : cs.length = nw * 5) (hnw : nw + n ≤ 1000000) (hn0 : 0 < n) (hF : FileAt c nm ob fs) (hfs : FsOk fs) (hnb : (nb : Int) ≤ 255) (hlba : (lba : Int) + (n : Int) ≤ (nb : Int)) (hfl4 : fs.length ≤ nb) (ho : 0 ≤ ops ∧ ops ≤ 900000000) (hs : ∀ i : Nat, i < n → ops + (i : Int) ≠ stop) (hl : qs.length = 8) (hq : qs[1]? = some (accV o 0 1)), ACalls Tryz.prog 12 [zP u, .int .i64 1, .slice (some ⟨cb, 0, none⟩) 16 1, accV xb xs.length 1] H (fun v H' => ∃ wb1 ob1 c1 cs1 ct9, v = zR ∧ cs1.length = (nw + n) * 5 ∧ FileAt c1 nm ob1 (setN fs lba (mkN 1 lba (unL false xs) n) n) ∧ (∀ n2 u2, n2 ≠ nm → Found c n2 u2 → Found c1 n2 u2) ∧ Stt ([w] ++ [sb] ++ wb.toList ++ [u]) H H' [⟨some w, true, zW sb db (accV wb1 (nw + n) 5) (ops + (n : Int)) stop⟩, ⟨some sb, true, ⟨true, .mp c1, []⟩⟩, ⟨wb1, true, ⟨true, 121, cs1⟩⟩, ⟨ob1, true, ⟨true, 5, (fileL (setN fs lba (mkN 1 lba (unL false xs) n) n)).map (Value.int .u8)⟩⟩, ⟨some u, true, ⟨true, 103, [.string i0, .string i1, .string i2, .string i3, .int .u8 1, zP dv, zP k, zP pg, zP tb, zP q, pe, .int .u32 1, .int .i32 0, .int .u32 0, .int .i64 0, .int .i64 ct9]⟩⟩])) := by
 refine ⟨@tag1_do_w_all 0 _ ?_, @tag1_do_w_all 1 _ ?_⟩ <;> intro ta H s w sb db lba nb nw n wb ob xb c cs nm fs xs ops stop u cb o qs i0 i1 i2 i3 dv k pg tb q pe ct st0 hbx hxl hn1 hn2 hcs hnw hn0 hF hfs hnb hlba hfl4 ho hs hl hq
 all_goals
  refine acallsW Tryz.func12 f12_ok (Nat.le_of_ble_eq_true rfl) fun hw => ?_
  have st : Stt ([w] ++ [sb] ++ wb.toList ++ [u]) H H [] := Stt.start hw
  replace st := st0
  unfold f12c
  refine zw ?_
  refine zp st fun b8 H1 st => ?_
  refine zw ?_
  refine zm ?_
  refine zb (.bool false) ?_
  refine zm ?_
  refine zg ?_
  refine zm ?_
  refine zg ?_
  refine zm ?_
  refine zg ?_
  refine zm ?_
  refine zg ?_
  refine zl st 4 ?_
  refine zg ?_
  refine zb (.bool false) ?_
  iterate 2 refine zm ?_
  refine zg ?_
  refine zm ?_
  refine zg ?_
  refine zb (.bool false) ?_
  iterate 2 refine zm ?_
  refine zg ?_
  refine zm ?_
  refine zg ?_
  refine zb (.bool false) ?_
  refine zm ?_
  refine zf ?_
  refine zw ?_
  iterate 3 refine zm ?_
  refine aC (uadd_call (zN st [4] [])) fun v37 H2 ⟨n37, hv, st1⟩ => ?_
  subst hv
  replace st := st.callT (ob := some u) 4 rfl st1 rfl
  clear st1
  refine zw ?_
  refine zm ?_
  refine aC (start_1 (zM st [] [0])) fun v39 H3 ⟨hv, st1⟩ => ?_
  subst hv
  replace st := st.call st1 rfl
  clear st1
  refine zb (.bool false) ?_
  refine zf ?_
  refine zw ?_
  refine zm ?_
  refine aC (parse_138_0 (l := (lba : Int)) (n := (n : Int)) ((st.rowAll 12 rfl (rfl))) (by omega) (by omega)) fun v45 H4 ⟨hv, st1⟩ => ?_
  subst hv
  replace st := st.call st1 rfl
  clear st1
  iterate 4 refine zm ?_
  refine zp st fun b9 H5 st => ?_
  refine zp st fun b10 H6 st => ?_
  refine zx st 1 fun H7 st => ?_
  refine zx st 0 fun H8 st => ?_
  refine zm ?_
  refine zw ?_
  iterate 2 refine zm ?_
  refine zf ?_
  refine zw ?_
  refine zm ?_
  refine zl st 1 ?_
  refine zb (.bool false) ?_
  refine zm ?_
  refine zg ?_
  refine zm ?_
  refine zg ?_
  refine zl st 1 ?_
  refine zg ?_
  refine zb (.bool false) ?_
  iterate 2 refine zm ?_
  refine zg ?_
  refine zm ?_
  refine zg ?_
  refine zl st 1 ?_
  refine zg ?_
  refine zb (.bool false) ?_
  iterate 2 refine zm ?_
  refine zw ?_
  iterate 3 refine zm ?_
  refine zl st 2 ?_
  refine zm ?_
  refine aC (qpeek_e (b := 0) (n := 1) (zM st [] [10, 11]) hl (by decide) hq) fun v72 H9 ⟨hv, st1⟩ => ?_
  subst hv
  replace st := st.call st1 rfl
  clear st1
  iterate 5 refine zm ?_
  refine zw ?_
  iterate 2 refine zm ?_
  iterate 2 refine zk ?_
  refine zm ?_
  refine zf ?_
  show AWp _ _ _ _ _
  iterate 3 refine zm ?_
  refine zl st 2 ?_
  iterate 2 refine zm ?_
  refine zl st 1 ?_
  refine ⟨?_, trivial⟩
  refine aC (class_8) fun v96 H10 ⟨hv, st1⟩ => ?_
  subst hv
  replace st := st.call st1 rfl
  clear st1
  refine ⟨⟨zh st 2, trivial⟩, ?_⟩
  refine ⟨?_, trivial⟩
  refine aC (conflict_call (zM st [] [12])) fun v97 H11 ⟨hv, st1⟩ => ?_
  subst hv
  replace st := st.call st1 rfl
  clear st1
  refine ⟨⟨zh st 1, trivial⟩, ?_⟩
  refine zf ?_
  refine zw ?_
  refine zm ?_
  refine zl st 1 ?_
  refine aC (alters_8) fun v101 H12 ⟨hv, st1⟩ => ?_
  subst hv
  replace st := st.call st1 rfl
  clear st1
  refine zm ?_
  refine zg ?_
  refine zm ?_
  refine zg ?_
  refine zm ?_
  refine zg ?_
  refine zm ?_
  refine zg ?_
  refine zl st 2 ?_
  refine zg ?_
  refine aC (now_call (zM st [] [13])) fun v107 H13 ⟨hv, st1⟩ => ?_
  subst hv
  replace st := st.call st1 rfl
  clear st1
  refine zg ?_
  iterate 2 refine zm ?_
  refine zf ?_
  refine zw ?_
  iterate 2 refine zm ?_
  refine aLdA st 1 rfl rfl (by first | decide | simp [*]) (by repeat constructor) ?_
  refine aMovA rfl ?_
  first | guard_hyp ta : 0 = 0; refine aC (urun_w0 (zN st [4, 5, 6] [2, 7, 8, 9, 15]) hbx hxl hn1 hn2 hcs hnw hn0 hF hfs hnb hlba hfl4 ho hs) fun v116 H14 ⟨wb1, ob1, c1, cs1, hv, hcs1, hF1, hO1, st1⟩ => ?_ | refine aC (urun_w1 (zN st [4, 5, 6] [2, 7, 8, 9, 15]) hbx hxl hn1 hn2 hcs hnw hn0 hF hfs hnb hlba hfl4 ho hs) fun v116 H14 ⟨wb1, ob1, c1, cs1, hv, hcs1, hF1, hO1, st1⟩ => ?_
  subst hv
  replace st := st.call3 (o1 := some w) (o2 := some sb) (o3 := wb) 4 4 4 rfl rfl rfl st1 rfl
  clear st1
  refine zx st 7 fun H15 st => ?_
  refine sE ?_
  refine ⟨_, out1 (zc st 7), ?_⟩
  exact ⟨wb1, ob1, c1, cs1, _, rfl, hcs1, hF1, hO1, st.sel [0, 1, 2, 3, 6] (by decide)⟩
theorem tag1_do_r_all (a : Nat) {p : Prop} (h : a = a → p) : p := h rfl
set_option maxHeartbeats 8000000 in
theorem do_r_all : (∀ {H : Hp} {s w sb db lba n nb : Nat} {wv : Value} {ob : Option Nat} {c : List (Value × Value)} {nm : ByteArray} {fs : List (Option Bk)} {ops stop : Int} {u cb : Nat} {o : Option Nat} {qs : List Value} {i0 i1 i2 i3 : ByteArray} {dv k pg tb q : Nat} {pe : Value} {ct : Int} (st0 : Stt ([w] ++ [u]) H H [⟨some w, true, zW sb db wv ops stop⟩, ⟨some u, true, ⟨true, 103, [.string i0, .string i1, .string i2, .string i3, .int .u8 0, zP dv, zP k, zP pg, zP tb, zP q, pe, .int .u32 1, .int .i32 0, .int .u32 0, .int .i64 0, .int .i64 ct]⟩⟩, ⟨some sb, false, ⟨true, .mp c, []⟩⟩, ⟨ob, false, ⟨true, 5, (fileL fs).map (Value.int .u8)⟩⟩, ⟨some s, false, zS w nm (nb : Int)⟩, ⟨some dv, false, zD s 0⟩, ⟨some q, false, ⟨true, 154, qs⟩⟩, ⟨o, false, ⟨true, 23, []⟩⟩, ⟨some tb, false, zT⟩, ⟨some pg, false, zG⟩, ⟨some cb, false, ⟨true, 5, ([136, 0, 0, 0, 0, 0, 0, 0, 0, (lba : Int), 0, 0, 0, (n : Int), 0, 0] : List Int).map (Value.int .u8)⟩⟩]) (hn1 : 1 ≤ nm.size) (hn2 : nm.size ≤ 32) (hF : FileAt c nm ob fs) (hfs : FsOk fs) (hnb : (nb : Int) ≤ 255) (hlba : (lba : Int) + (n : Int) ≤ (nb : Int)) (hfl4 : fs.length ≤ 4096) (ho : 0 ≤ ops ∧ ops ≤ 900000000) (hs : ∀ i : Nat, i < n → ops + (i : Int) ≠ stop) (hgood : ∀ i, i < n → GoodB 0 (lba + i) (blkAt fs (lba + i))) (hl : qs.length = 8) (hq : qs[0]? = some (accV o 0 1)), ACalls Tryz.prog 12 [zP u, .int .i64 0, .slice (some ⟨cb, 0, none⟩) 16 1, .slice none 0 0] H (fun v H' => ∃ pp ct9, v = .agg #[.int .u8 0, .int .u8 0, .int .u16 0, .int .u64 0, .bool false, .int .i64 0, .int .i64 0, .bool false, .bool false, accV pp (pkL false (bsR fs lba n)).length 1] ∧ Stt ([w] ++ [u]) H H' [⟨some w, true, zW sb db wv (ops + (n : Int)) stop⟩, ⟨some u, true, ⟨true, 103, [.string i0, .string i1, .string i2, .string i3, .int .u8 0, zP dv, zP k, zP pg, zP tb, zP q, pe, .int .u32 1, .int .i32 0, .int .u32 0, .int .i64 0, .int .i64 ct9]⟩⟩, ⟨pp, true, ⟨true, 5, (pkL false (bsR fs lba n)).map (Value.int .u8)⟩⟩])) ∧
  (∀ {H : Hp} {s w sb db lba n nb : Nat} {wv : Value} {ob : Option Nat} {c : List (Value × Value)} {nm : ByteArray} {fs : List (Option Bk)} {ops stop : Int} {u cb : Nat} {o : Option Nat} {qs : List Value} {i0 i1 i2 i3 : ByteArray} {dv k pg tb q : Nat} {pe : Value} {ct : Int} (st0 : Stt ([w] ++ [u]) H H [⟨some w, true, zW sb db wv ops stop⟩, ⟨some u, true, ⟨true, 103, [.string i0, .string i1, .string i2, .string i3, .int .u8 1, zP dv, zP k, zP pg, zP tb, zP q, pe, .int .u32 1, .int .i32 0, .int .u32 0, .int .i64 0, .int .i64 ct]⟩⟩, ⟨some sb, false, ⟨true, .mp c, []⟩⟩, ⟨ob, false, ⟨true, 5, (fileL fs).map (Value.int .u8)⟩⟩, ⟨some s, false, zS w nm (nb : Int)⟩, ⟨some dv, false, zD s 1⟩, ⟨some q, false, ⟨true, 154, qs⟩⟩, ⟨o, false, ⟨true, 23, []⟩⟩, ⟨some tb, false, zT⟩, ⟨some pg, false, zG⟩, ⟨some cb, false, ⟨true, 5, ([136, 0, 0, 0, 0, 0, 0, 0, 0, (lba : Int), 0, 0, 0, (n : Int), 0, 0] : List Int).map (Value.int .u8)⟩⟩]) (hn1 : 1 ≤ nm.size) (hn2 : nm.size ≤ 32) (hF : FileAt c nm ob fs) (hfs : FsOk fs) (hnb : (nb : Int) ≤ 255) (hlba : (lba : Int) + (n : Int) ≤ (nb : Int)) (hfl4 : fs.length ≤ 4096) (ho : 0 ≤ ops ∧ ops ≤ 900000000) (hs : ∀ i : Nat, i < n → ops + (i : Int) ≠ stop) (hgood : ∀ i, i < n → GoodB 1 (lba + i) (blkAt fs (lba + i))) (hl : qs.length = 8) (hq : qs[0]? = some (accV o 0 1)), ACalls Tryz.prog 12 [zP u, .int .i64 0, .slice (some ⟨cb, 0, none⟩) 16 1, .slice none 0 0] H (fun v H' => ∃ pp ct9, v = .agg #[.int .u8 0, .int .u8 0, .int .u16 0, .int .u64 0, .bool false, .int .i64 0, .int .i64 0, .bool false, .bool false, accV pp (pkL false (bsR fs lba n)).length 1] ∧ Stt ([w] ++ [u]) H H' [⟨some w, true, zW sb db wv (ops + (n : Int)) stop⟩, ⟨some u, true, ⟨true, 103, [.string i0, .string i1, .string i2, .string i3, .int .u8 1, zP dv, zP k, zP pg, zP tb, zP q, pe, .int .u32 1, .int .i32 0, .int .u32 0, .int .i64 0, .int .i64 ct9]⟩⟩, ⟨pp, true, ⟨true, 5, (pkL false (bsR fs lba n)).map (Value.int .u8)⟩⟩])) := by
 refine ⟨@tag1_do_r_all 0 _ ?_, @tag1_do_r_all 1 _ ?_⟩ <;> intro ta H s w sb db lba n nb wv ob c nm fs ops stop u cb o qs i0 i1 i2 i3 dv k pg tb q pe ct st0 hn1 hn2 hF hfs hnb hlba hfl4 ho hs hgood hl hq
 all_goals
  refine acallsW Tryz.func12 f12_ok (Nat.le_of_ble_eq_true rfl) fun hw => ?_
  have st : Stt ([w] ++ [u]) H H [] := Stt.start hw
  replace st := st0
  unfold f12c
  refine zw ?_
  refine zp st fun b8 H1 st => ?_
  refine zw ?_
  refine zm ?_
  refine zb (.bool false) ?_
  refine zm ?_
  refine zg ?_
  refine zm ?_
  refine zg ?_
  refine zm ?_
  refine zg ?_
  refine zm ?_
  refine zg ?_
  refine zl st 2 ?_
  refine zg ?_
  refine zb (.bool false) ?_
  iterate 2 refine zm ?_
  refine zg ?_
  refine zm ?_
  refine zg ?_
  refine zb (.bool false) ?_
  iterate 2 refine zm ?_
  refine zg ?_
  refine zm ?_
  refine zg ?_
  refine zb (.bool false) ?_
  refine zm ?_
  refine zf ?_
  refine zw ?_
  iterate 3 refine zm ?_
  refine aC (uadd_call (zN st [2] [])) fun v37 H2 ⟨n37, hv, st1⟩ => ?_
  subst hv
  replace st := st.callT (ob := some u) 2 rfl st1 rfl
  clear st1
  refine zw ?_
  refine zm ?_
  refine aC (start_1 (zM st [] [0])) fun v39 H3 ⟨hv, st1⟩ => ?_
  subst hv
  replace st := st.call st1 rfl
  clear st1
  refine zb (.bool false) ?_
  refine zf ?_
  refine zw ?_
  refine zm ?_
  refine aC (parse_136_0 (l := (lba : Int)) (n := (n : Int)) ((st.rowAll 11 rfl (rfl))) (by omega) (by omega)) fun v45 H4 ⟨hv, st1⟩ => ?_
  subst hv
  replace st := st.call st1 rfl
  clear st1
  iterate 4 refine zm ?_
  refine zp st fun b9 H5 st => ?_
  refine zp st fun b10 H6 st => ?_
  refine zx st 1 fun H7 st => ?_
  refine zx st 0 fun H8 st => ?_
  refine zm ?_
  refine zw ?_
  iterate 2 refine zm ?_
  refine zf ?_
  refine zw ?_
  refine zm ?_
  refine zl st 1 ?_
  refine zb (.bool false) ?_
  refine zm ?_
  refine zg ?_
  refine zm ?_
  refine zg ?_
  refine zl st 1 ?_
  refine zg ?_
  refine zb (.bool false) ?_
  iterate 2 refine zm ?_
  refine zg ?_
  refine zm ?_
  refine zg ?_
  refine zl st 1 ?_
  refine zg ?_
  refine zb (.bool false) ?_
  iterate 2 refine zm ?_
  refine zw ?_
  iterate 3 refine zm ?_
  refine zl st 2 ?_
  refine zm ?_
  refine aC (qpeek_e (b := 0) (n := 0) (zM st [] [9, 10]) hl (by decide) hq) fun v72 H9 ⟨hv, st1⟩ => ?_
  subst hv
  replace st := st.call st1 rfl
  clear st1
  iterate 5 refine zm ?_
  refine zw ?_
  iterate 2 refine zm ?_
  iterate 2 refine zk ?_
  refine zm ?_
  refine zf ?_
  show AWp _ _ _ _ _
  iterate 3 refine zm ?_
  refine zl st 2 ?_
  iterate 2 refine zm ?_
  refine zl st 1 ?_
  refine ⟨?_, trivial⟩
  refine aC (class_7) fun v96 H10 ⟨hv, st1⟩ => ?_
  subst hv
  replace st := st.call st1 rfl
  clear st1
  refine ⟨⟨zh st 2, trivial⟩, ?_⟩
  refine ⟨?_, trivial⟩
  refine aC (conflict_call (zM st [] [11])) fun v97 H11 ⟨hv, st1⟩ => ?_
  subst hv
  replace st := st.call st1 rfl
  clear st1
  refine ⟨⟨zh st 1, trivial⟩, ?_⟩
  refine zf ?_
  refine zw ?_
  refine zm ?_
  refine zl st 1 ?_
  refine aC (alters_7) fun v101 H12 ⟨hv, st1⟩ => ?_
  subst hv
  replace st := st.call st1 rfl
  clear st1
  refine zm ?_
  iterate 6 refine zk ?_
  refine zm ?_
  refine zf ?_
  refine zw ?_
  iterate 2 refine zm ?_
  refine aLdA st 1 rfl rfl (by first | decide | simp [*]) (by repeat constructor) ?_
  refine zm ?_
  first | guard_hyp ta : 0 = 0; refine aC (urun_r0 (zN st [4] [2, 5, 6, 7, 8]) hn1 hn2 hF hfs hnb hlba hfl4 ho hs hgood) fun v116 H13 ⟨pp, hv, st1⟩ => ?_ | refine aC (urun_r1 (zN st [4] [2, 5, 6, 7, 8]) hn1 hn2 hF hfs hnb hlba hfl4 ho hs hgood) fun v116 H13 ⟨pp, hv, st1⟩ => ?_
  subst hv
  replace st := st.callT (ob := some w) 4 rfl st1 rfl
  clear st1
  refine zx st 5 fun H14 st => ?_
  refine sE ?_
  refine ⟨_, out1 (zc st 5), ?_⟩
  exact ⟨pp, _, rfl, st.sel [0, 4, 1] (by decide)⟩
theorem tag1_tblock_all (a : Nat) {p : Prop} (h : a = a → p) : p := h rfl
set_option maxHeartbeats 8000000 in
theorem tblock_all : (∀ {H : Hp} {s w sb db lba nb : Nat} {wv : Value} {ob : Option Nat} {c : List (Value × Value)} {nm : ByteArray} {fs : List (Option Bk)} {ops stop : Int} {u : Nat} {o : Option Nat} {qs : List Value} {i0 i1 i2 i3 : ByteArray} {dv k pg tb q : Nat} {pe : Value} {ct : Int} (st0 : Stt ([w] ++ [u]) H H [⟨some w, true, zW sb db wv ops stop⟩, ⟨some u, true, ⟨true, 103, [.string i0, .string i1, .string i2, .string i3, .int .u8 0, zP dv, zP k, zP pg, zP tb, zP q, pe, .int .u32 1, .int .i32 0, .int .u32 0, .int .i64 0, .int .i64 ct]⟩⟩, ⟨some sb, false, ⟨true, .mp c, []⟩⟩, ⟨ob, false, ⟨true, 5, (fileL fs).map (Value.int .u8)⟩⟩, ⟨some s, false, zS w nm (nb : Int)⟩, ⟨some dv, false, zD s 0⟩, ⟨some q, false, ⟨true, 154, qs⟩⟩, ⟨o, false, ⟨true, 23, []⟩⟩, ⟨some tb, false, zT⟩, ⟨some pg, false, zG⟩]) (hn1 : 1 ≤ nm.size) (hn2 : nm.size ≤ 32) (hF : FileAt c nm ob fs) (hfs : FsOk fs) (hnb : (nb : Int) ≤ 255) (hlba : (lba : Int) + (1 : Int) ≤ (nb : Int)) (hfl4 : fs.length ≤ 4096) (ho : 0 ≤ ops ∧ ops ≤ 900000000) (hs : stop < 0) (hgood : ∀ i, i < 1 → GoodB 0 (lba + i) (blkAt fs (lba + i))) (hl : qs.length = 8) (hq : qs[0]? = some (accV o 0 1)), ACalls Tryz.prog 15 [zP u, .int .i64 (lba : Int)] H (fun v H' => ∃ ct9, v = .tuple #[.string (ofInts (pkL false (bsR fs lba 1))), .bool true] ∧ Stt ([w] ++ [u]) H H' [⟨some w, true, zW sb db wv (ops + ((1 : Nat) : Int)) stop⟩, ⟨some u, true, ⟨true, 103, [.string i0, .string i1, .string i2, .string i3, .int .u8 0, zP dv, zP k, zP pg, zP tb, zP q, pe, .int .u32 1, .int .i32 0, .int .u32 0, .int .i64 0, .int .i64 ct9]⟩⟩])) ∧
  (∀ {H : Hp} {s w sb db lba nb : Nat} {wv : Value} {ob : Option Nat} {c : List (Value × Value)} {nm : ByteArray} {fs : List (Option Bk)} {ops stop : Int} {u : Nat} {o : Option Nat} {qs : List Value} {i0 i1 i2 i3 : ByteArray} {dv k pg tb q : Nat} {pe : Value} {ct : Int} (st0 : Stt ([w] ++ [u]) H H [⟨some w, true, zW sb db wv ops stop⟩, ⟨some u, true, ⟨true, 103, [.string i0, .string i1, .string i2, .string i3, .int .u8 1, zP dv, zP k, zP pg, zP tb, zP q, pe, .int .u32 1, .int .i32 0, .int .u32 0, .int .i64 0, .int .i64 ct]⟩⟩, ⟨some sb, false, ⟨true, .mp c, []⟩⟩, ⟨ob, false, ⟨true, 5, (fileL fs).map (Value.int .u8)⟩⟩, ⟨some s, false, zS w nm (nb : Int)⟩, ⟨some dv, false, zD s 1⟩, ⟨some q, false, ⟨true, 154, qs⟩⟩, ⟨o, false, ⟨true, 23, []⟩⟩, ⟨some tb, false, zT⟩, ⟨some pg, false, zG⟩]) (hn1 : 1 ≤ nm.size) (hn2 : nm.size ≤ 32) (hF : FileAt c nm ob fs) (hfs : FsOk fs) (hnb : (nb : Int) ≤ 255) (hlba : (lba : Int) + (1 : Int) ≤ (nb : Int)) (hfl4 : fs.length ≤ 4096) (ho : 0 ≤ ops ∧ ops ≤ 900000000) (hs : stop < 0) (hgood : ∀ i, i < 1 → GoodB 1 (lba + i) (blkAt fs (lba + i))) (hl : qs.length = 8) (hq : qs[0]? = some (accV o 0 1)), ACalls Tryz.prog 15 [zP u, .int .i64 (lba : Int)] H (fun v H' => ∃ ct9, v = .tuple #[.string (ofInts (pkL false (bsR fs lba 1))), .bool true] ∧ Stt ([w] ++ [u]) H H' [⟨some w, true, zW sb db wv (ops + ((1 : Nat) : Int)) stop⟩, ⟨some u, true, ⟨true, 103, [.string i0, .string i1, .string i2, .string i3, .int .u8 1, zP dv, zP k, zP pg, zP tb, zP q, pe, .int .u32 1, .int .i32 0, .int .u32 0, .int .i64 0, .int .i64 ct9]⟩⟩])) := by
 refine ⟨@tag1_tblock_all 0 _ ?_, @tag1_tblock_all 1 _ ?_⟩ <;> intro ta H s w sb db lba nb wv ob c nm fs ops stop u o qs i0 i1 i2 i3 dv k pg tb q pe ct st0 hn1 hn2 hF hfs hnb hlba hfl4 ho hs hgood hl hq
 all_goals
  refine acallsW Tryz.func15 f15_ok (Nat.le_of_ble_eq_true rfl) fun hw => ?_
  have st : Stt ([w] ++ [u]) H H [] := Stt.start hw
  replace st := st0
  unfold f15c
  refine zw ?_
  iterate 2 refine zm ?_
  refine zw ?_
  iterate 2 refine zm ?_
  refine aC (onb_call (l := lba) (n := 1) (by omega) (by decide)) fun v9 H1 ⟨cb, hv, st1⟩ => ?_
  subst hv
  replace st := st.call st1 rfl
  clear st1
  first | guard_hyp ta : 0 = 0; refine aC (do_r_all.1 (n := 1) (zN st [1, 2] [3, 4, 5, 6, 7, 8, 9, 10, 0]) hn1 hn2 hF hfs hnb hlba hfl4 ho (fun i hi => by omega) hgood hl hq) fun v10 H2 ⟨pp, ct9, hv, st1⟩ => ?_ | refine aC (do_r_all.2 (n := 1) (zN st [1, 2] [3, 4, 5, 6, 7, 8, 9, 10, 0]) hn1 hn2 hF hfs hnb hlba hfl4 ho (fun i hi => by omega) hgood hl hq) fun v10 H2 ⟨pp, ct9, hv, st1⟩ => ?_
  subst hv
  replace st := st.call2 (o1 := some w) (o2 := some u) 1 1 rfl rfl st1 rfl
  clear st1
  refine zp st fun b6 H3 st => ?_
  refine zx st 0 fun H4 st => ?_
  refine sE ?_
  show AWp _ _ _ _ _
  refine zm ?_
  refine aLdQ st 0 rfl rfl rfl rfl ?_
  have hxs : Sl H4 1 (pkL false (bsR fs lba 1)).length ((pkL false (bsR fs lba 1)).map (Value.int .u8)) (accV pp (pkL false (bsR fs lba 1)).length 1) := (st.rowAcc 3 rfl (by decide) (by simp))
  refine aText hxs rfl ?_
  refine aLdA st 0 rfl rfl (by first | decide | simp [*]) (by repeat constructor) ?_
  refine ⟨?_, trivial⟩
  refine aC (tgood0) fun v15 H5 ⟨hv, st1⟩ => ?_
  subst hv
  replace st := st.call st1 rfl
  clear st1
  refine ⟨⟨(h_Text (xs := (pkL false (bsR fs lba 1))) ((st.rowAcc 3 rfl (by decide) (by simp))) rfl), zh st 0, trivial⟩, ?_⟩
  iterate 2 refine zm ?_
  refine pE ?_
  refine ⟨_, out2 zr zr ⟨rfl, rfl⟩, ?_⟩
  exact ⟨_, rfl, st.sel [1, 2] (by decide)⟩
end Go.Proofs.YtjmjkdelkaflmaaGreatDoor.Abs
