/- A unit: once. -/
import Derived.Test.YtjmjkdelkaflmaaGreatDoorXI
import Derived.Test.YtjmjkdelkaflmaaGreatDoorXQ
import Derived.Test.YtjmjkdelkaflmaaGreatDoorL_once2
set_option linter.unusedVariables false
set_option linter.unusedSimpArgs false
set_option maxRecDepth 100000
namespace Go.Proofs.YtjmjkdelkaflmaaGreatDoor.Abs
open Go Go.RowKit
theorem Stt.tr {X : List Nat} {H0 H1 H2 : Hp} {L L' : List Ent} (a : Stt X H0 H1 L) (b : Stt X H1 H2 L') : Stt X H0 H2 L' :=
  ⟨a.wf0, b.wf, Nat.le_trans a.nx b.nx, fun c hc hx => (b.frm c (Nat.lt_of_lt_of_le hc a.nx) hx).trans (a.frm c hc hx), b.has, fun p hp ho => ⟨(b.own p hp ho).1, fun c hc => ((b.own p hp ho).2 c hc).imp (Nat.le_trans a.nx) id⟩, b.dis⟩
theorem put_of {H : Hp} {b o : Nat} {k : Blk} {x : Value} (hk : H.m b = some k) (hr : k.rw = true) (ht : k.e.isTy = true) (hl : o < k.cells.length) : H.put b o [x] = some (H.set b { k with cells := k.cells.take o ++ [x] ++ k.cells.drop (o + 1) }) := by
  unfold Hp.put
  rw [hk]
  simp only
  rw [if_pos ⟨hr, ht⟩, if_pos (by simp; omega)]
  rfl
theorem get1_of {H : Hp} {b o : Nat} {k : Blk} {x : Value} (hk : H.m b = some k) (hx : k.cells[o]? = some x) : H.get b o 1 = some [x] := by
  unfold Hp.get
  rw [hk]
  have hl := (List.getElem?_eq_some_iff.1 hx).1
  simp only
  rw [if_pos (by omega)]
  congr 1
  rw [List.drop_eq_getElem_cons hl, (List.getElem?_eq_some_iff.1 hx).2]
  rfl
theorem rv_func {ρ : Rho} {f : FuncId} {cs : List Value} {v : Value} (h : RV ρ (.func (.func f) #[] cs.toArray) v) : ∃ cs' : List Value, v = .func (.func f) #[] cs'.toArray ∧ PtrL ρ cs cs' := by
  generalize hu : Value.func (.func f) #[] cs.toArray = u at h
  cases h with
  | one h => cases h with
    | one h => cases h with
      | func f' hp =>
        injection hu with h1 h2 h3
        injection h1 with h1
        subst h1
        have := congrArg Array.toList h3
        simp only [List.toList_toArray] at this
        subst this
        exact ⟨_, rfl, hp⟩
      | _ => cases hu
    | agg _ => cases hu
  | tuple _ => cases hu
theorem ptrl_one {ρ : Rho} {b o : Nat} {cs : List Value} (h : PtrL ρ [.pointer (some ⟨b, o, none⟩)] cs) : ∃ l, ρ b = some l ∧ cs = [.pointer (some (l.a.add o))] := by
  cases h with
  | cons b o l hb t => cases t; exact ⟨l, hb, rfl⟩
set_option maxHeartbeats 1000000 in
theorem slow_call {H : Hp} {w sb db u bu : Nat} {wv : Value} {c : List (Value × Value)} {fp : ByteArray} {ops stop : Int} {i0 i1 i2 i3 : ByteArray} {pr : Int} {dv k pg tb q : Nat} {pe : Value} {fa ct : Int} (st0 : Stt ([w] ++ [k] ++ [q] ++ [u]) H H [⟨some w, true, zW sb db wv ops stop⟩, ⟨some k, true, ⟨true, 178, [zP w, .string fp, .bool false, .int .i64 (-1), .int .u64 0]⟩⟩, ⟨some q, true, ⟨true, 154, [.slice none 0 0, .slice none 0 0, .slice none 0 0, .slice none 0 0, .slice none 0 0, .slice none 0 0, .slice none 0 0, .slice none 0 0]⟩⟩, ⟨some u, true, ⟨true, 103, [.string i0, .string i1, .string i2, .string i3, .int .u8 pr, zP dv, zP k, zP pg, zP tb, zP q, pe, .int .u32 0, .int .i32 0, .int .u32 0, .int .i64 fa, .int .i64 ct]⟩⟩, ⟨some sb, false, ⟨true, .mp c, []⟩⟩, ⟨some bu, false, ⟨true, 27, [zP u]⟩⟩]) (hfp : 1 ≤ fp.size ∧ fp.size ≤ 30) (hf0 : Found c ((fp ++ ⟨#[46]⟩) ++ ⟨#[48]⟩) none) (hf1 : Found c ((fp ++ ⟨#[46]⟩) ++ ⟨#[49]⟩) none) (ho : 0 ≤ ops ∧ ops ≤ 900000000) (hs : stop < 0) :
    ACalls Tryz.prog 71 [.pointer (some ⟨u, 11, none⟩), .func (.func 44) #[] #[zP bu]] H (fun v H' => ∃ b0 b1 b2 b3 b4 b5 b6 b7, v = .tuple #[] ∧ Stt ([w] ++ [k] ++ [q] ++ [u]) H H' [⟨some w, true, zW sb db wv (ops + 2) stop⟩, ⟨some k, true, ⟨true, 178, [zP w, .string fp, .bool true, .int .i64 (-1), .int .u64 0]⟩⟩, ⟨some q, true, ⟨true, 154, [.slice (some ⟨b0, 0, none⟩) 1 1, .slice (some ⟨b1, 0, none⟩) 1 1, .slice (some ⟨b2, 0, none⟩) 1 1, .slice (some ⟨b3, 0, none⟩) 1 1, .slice (some ⟨b4, 0, none⟩) 1 1, .slice (some ⟨b5, 0, none⟩) 1 1, .slice (some ⟨b6, 0, none⟩) 1 1, .slice (some ⟨b7, 0, none⟩) 1 1]⟩⟩, ⟨some u, true, ⟨true, 103, [.string i0, .string i1, .string i2, .string i3, .int .u8 pr, zP dv, zP k, zP pg, zP tb, zP q, pe, .int .u32 1, .int .i32 0, .int .u32 0, .int .i64 0, .int .i64 ct]⟩⟩, ⟨some b0, true, ⟨true, 23, [.int .u16 10496]⟩⟩, ⟨some b1, true, ⟨true, 23, [.int .u16 10496]⟩⟩, ⟨some b2, true, ⟨true, 23, [.int .u16 10496]⟩⟩, ⟨some b3, true, ⟨true, 23, [.int .u16 10496]⟩⟩, ⟨some b4, true, ⟨true, 23, [.int .u16 10496]⟩⟩, ⟨some b5, true, ⟨true, 23, [.int .u16 10496]⟩⟩, ⟨some b6, true, ⟨true, 23, [.int .u16 10496]⟩⟩, ⟨some b7, true, ⟨true, 23, [.int .u16 10496]⟩⟩]) := by
  intro ρ w0 W ys hy h
  obtain ⟨l, ys1, hl, rfl, hy1⟩ := a2_ptr hy
  cases hy1 with
  | cons r rest =>
    cases rest
    obtain ⟨cs', rfl, hpl⟩ := rv_func (cs := [zP bu]) r
    obtain ⟨l2, hl2, rfl⟩ := ptrl_one hpl
    have hu : H.m u = some ⟨true, 103, [.string i0, .string i1, .string i2, .string i3, .int .u8 pr, zP dv, zP k, zP pg, zP tb, zP q, pe, .int .u32 0, .int .i32 0, .int .u32 0, .int .i64 fa, .int .i64 ct]⟩ := st0.get (j := 3) rfl
    have hp1 : H.put u 12 [.int .i32 1] = some (H.set u ⟨true, 103, [.string i0, .string i1, .string i2, .string i3, .int .u8 pr, zP dv, zP k, zP pg, zP tb, zP q, pe, .int .u32 0, .int .i32 1, .int .u32 0, .int .i64 fa, .int .i64 ct]⟩) := put_of hu rfl rfl (Nat.le_of_ble_eq_true rfl)
    have hp0 : H.put u 11 [.int .u32 0] = some (H.set u ⟨true, 103, [.string i0, .string i1, .string i2, .string i3, .int .u8 pr, zP dv, zP k, zP pg, zP tb, zP q, pe, .int .u32 0, .int .i32 0, .int .u32 0, .int .i64 fa, .int .i64 ct]⟩) := put_of hu rfl rfl (Nat.le_of_ble_eq_true rfl)
    obtain ⟨l', g, y1, hl', hla, hc1, hz1, hr1⟩ := put1 h hp1 (.int .i32 1)
    cases hl.symm.trans hl'
    obtain ⟨l', g', y2, hl', hla', hc0, hz0, _⟩ := put1 h hp0 (.int .u32 0)
    cases hl.symm.trans hl'
    cases hla.symm.trans hla'
    obtain ⟨l', z0, hl', r0, hd0⟩ := get1 h (get1_of hu (o := 11) (x := .int .u32 0) rfl)
    cases hl.symm.trans hl'
    cases rc_int r0
    obtain ⟨l', z1, hl', r1, hd1⟩ := get1 h (get1_of hu (o := 12) (x := .int .i32 0) rfl)
    cases hl.symm.trans hl'
    cases rc_int r1
    rw [hla, add_plain] at hd0 hd1 ⊢
    have st1 := st0.put (j := 3) rfl [.string i0, .string i1, .string i2, .string i3, .int .u8 pr, zP dv, zP k, zP pg, zP tb, zP q, pe, .int .u32 0, .int .i32 1, .int .u32 0, .int .i64 fa, .int .i64 ct]
    have hcall := start1_call (om := 1) (st1.takeW [0, 1, 2, 3] [4, 5] (by decide) (by intro p hp b hb; simp at hp; rcases hp with rfl | rfl | rfl | rfl <;> simp_all)) hfp hf0 hf1 ho hs ρ w0 _ [.pointer (some (l2.a.add 0))] (.cons (.one (.one (.ptr bu 0 l2 hl2))) .nil) hr1
    refine (OnceT.slow_any g 11 (l2.a.add 0) (fun w' => ∃ ρ' v H', Ext ρ ρ' ∧ RV ρ' v (.tuple #[]) ∧ RH ρ' H' w0 w' ∧ ∃ b0 b1 b2 b3 b4 b5 b6 b7, v = .tuple #[] ∧ Stt ([w] ++ [k] ++ [q] ++ [u]) (H.set u ⟨true, 103, [.string i0, .string i1, .string i2, .string i3, .int .u8 pr, zP dv, zP k, zP pg, zP tb, zP q, pe, .int .u32 0, .int .i32 1, .int .u32 0, .int .i64 fa, .int .i64 ct]⟩) H' [⟨some w, true, zW sb db wv (ops + 2) stop⟩, ⟨some k, true, ⟨true, 178, [zP w, .string fp, .bool true, .int .i64 (-1), .int .u64 0]⟩⟩, ⟨some q, true, ⟨true, 154, [.slice (some ⟨b0, 0, none⟩) 1 1, .slice (some ⟨b1, 0, none⟩) 1 1, .slice (some ⟨b2, 0, none⟩) 1 1, .slice (some ⟨b3, 0, none⟩) 1 1, .slice (some ⟨b4, 0, none⟩) 1 1, .slice (some ⟨b5, 0, none⟩) 1 1, .slice (some ⟨b6, 0, none⟩) 1 1, .slice (some ⟨b7, 0, none⟩) 1 1]⟩⟩, ⟨some u, true, ⟨true, 103, [.string i0, .string i1, .string i2, .string i3, .int .u8 pr, zP dv, zP k, zP pg, zP tb, zP q, pe, .int .u32 0, .int .i32 1, .int .u32 0, .int .i64 0, .int .i64 ct]⟩⟩, ⟨some b0, true, ⟨true, 23, [.int .u16 10496]⟩⟩, ⟨some b1, true, ⟨true, 23, [.int .u16 10496]⟩⟩, ⟨some b2, true, ⟨true, 23, [.int .u16 10496]⟩⟩, ⟨some b3, true, ⟨true, 23, [.int .u16 10496]⟩⟩, ⟨some b4, true, ⟨true, 23, [.int .u16 10496]⟩⟩, ⟨some b5, true, ⟨true, 23, [.int .u16 10496]⟩⟩, ⟨some b6, true, ⟨true, 23, [.int .u16 10496]⟩⟩, ⟨some b7, true, ⟨true, 23, [.int .u16 10496]⟩⟩]) W hd0 hd1 hz0 hz1 (hcall.mono ?_) ?_).mono ?_
    · intro e w' he
      cases e with
      | returned v' =>
        obtain ⟨ρ', v, H', e1, e2, e3, b0, b1, b2, b3, b4, b5, b6, b7, rfl, e5⟩ := he
        obtain ⟨zs, rfl, hz⟩ := rv_tuple e2
        cases hz
        exact ⟨rfl, ρ', _, H', e1, e2, e3, b0, b1, b2, b3, b4, b5, b6, b7, rfl, e5⟩
      | _ => exact he.elim
    · rintro w' ⟨ρ', v, H', e1, e2, e3, b0, b1, b2, b3, b4, b5, b6, b7, rfl, e5⟩
      have hl3 := e1 u _ hl
      have hu' : H'.m u = some ⟨true, 103, [.string i0, .string i1, .string i2, .string i3, .int .u8 pr, zP dv, zP k, zP pg, zP tb, zP q, pe, .int .u32 0, .int .i32 1, .int .u32 0, .int .i64 0, .int .i64 ct]⟩ := e5.get (j := 3) rfl
      obtain ⟨l', z0, hl', r0, hd0⟩ := get1 e3 (get1_of hu' (o := 11) (x := .int .u32 0) rfl)
      cases hl3.symm.trans hl'
      cases rc_int r0
      obtain ⟨l', z1, hl', r1, hd1⟩ := get1 e3 (get1_of hu' (o := 12) (x := .int .i32 1) rfl)
      cases hl3.symm.trans hl'
      cases rc_int r1
      obtain ⟨l', g', y2, hl', hla', hc0, hz0, _⟩ := put1 e3 (put_of hu' (o := 11) (x := .int .u32 0) rfl rfl (Nat.le_of_ble_eq_true rfl)) (.int .u32 0)
      cases hl3.symm.trans hl'
      cases hla.symm.trans hla'
      obtain ⟨l', g', y3, hl', hla', hc0, hz1, _⟩ := put1 e3 (put_of hu' (o := 12) (x := .int .i32 0) rfl rfl (Nat.le_of_ble_eq_true rfl)) (.int .i32 0)
      cases hl3.symm.trans hl'
      cases hla.symm.trans hla'
      rw [hla, add_plain] at hd0 hd1
      exact ⟨hd0, hd1, hz0, hz1⟩
    · rintro e w' ⟨rfl, w2, ⟨ρ', v, H', e1, e2, e3, b0, b1, b2, b3, b4, b5, b6, b7, rfl, e5⟩, rfl⟩
      have hl3 := e1 u _ hl
      have hu' : H'.m u = some ⟨true, 103, [.string i0, .string i1, .string i2, .string i3, .int .u8 pr, zP dv, zP k, zP pg, zP tb, zP q, pe, .int .u32 0, .int .i32 1, .int .u32 0, .int .i64 0, .int .i64 ct]⟩ := e5.get (j := 3) rfl
      have e3d := e3.world (Below.refl _ w2).drew
      obtain ⟨l', g', y2, hl', hla', _, _, f1⟩ := put1 e3d (put_of hu' (o := 11) (x := .int .u32 1) rfl rfl (Nat.le_of_ble_eq_true rfl)) (.int .u32 1)
      cases hl3.symm.trans hl'
      cases hla.symm.trans hla'
      have t1 := e5.put (j := 3) rfl [.string i0, .string i1, .string i2, .string i3, .int .u8 pr, zP dv, zP k, zP pg, zP tb, zP q, pe, .int .u32 1, .int .i32 1, .int .u32 0, .int .i64 0, .int .i64 ct]
      have hu2 := t1.get (j := 3) rfl
      obtain ⟨l', g', y3, hl', hla', _, _, f2⟩ := put1 f1 (put_of (o := 12) (x := .int .i32 0) hu2 rfl rfl (Nat.le_of_ble_eq_true rfl)) (.int .i32 0)
      cases hl3.symm.trans hl'
      cases hla.symm.trans hla'
      have t2 := t1.put (j := 3) rfl [.string i0, .string i1, .string i2, .string i3, .int .u8 pr, zP dv, zP k, zP pg, zP tb, zP q, pe, .int .u32 1, .int .i32 0, .int .u32 0, .int .i64 0, .int .i64 ct]
      exact ⟨ρ', _, _, e1, .tuple .nil, f2, b0, b1, b2, b3, b4, b5, b6, b7, rfl, (st1.tr t2)⟩

theorem Stt.call4 {X : List Nat} {H0 H H' : Hp} {L L' : List Ent} {o1 o2 o3 o4 : Option Nat} {k1 k2 k3 k4 : Blk} (st : Stt X H0 H L) (i j m n : Nat) (hi : L[i]? = some ⟨o1, true, k1⟩) (hj : (L.eraseIdx i)[j]? = some ⟨o2, true, k2⟩) (hm : ((L.eraseIdx i).eraseIdx j)[m]? = some ⟨o3, true, k3⟩) (hn : (((L.eraseIdx i).eraseIdx j).eraseIdx m)[n]? = some ⟨o4, true, k4⟩) (h : Stt (o1.toList ++ o2.toList ++ o3.toList ++ o4.toList) H H' L') (ho : L'.all (·.ok) = true) : Stt X H0 H' (L' ++ (((L.eraseIdx i).eraseIdx j).eraseIdx m).eraseIdx n) := by
  have e1 : ∀ p ∈ ((L.eraseIdx i).eraseIdx j).eraseIdx m, p ∈ L ∧ ∀ c ∈ o1.toList ++ o2.toList ++ o3.toList, p.key ≠ some c := fun p hp => by
    obtain ⟨h1, h2⟩ := erase_ne ((st.erase i).erase j) hm p hp
    obtain ⟨h3, h4⟩ := erase_ne (st.erase i) hj p h1
    obtain ⟨h5, h6⟩ := erase_ne st hi p h3
    refine ⟨h5, fun c hc => ?_⟩
    rcases List.mem_append.1 hc with hc | hc
    · rcases List.mem_append.1 hc with hc | hc
      · exact h6 c hc
      · exact h4 c hc
    · exact h2 c hc
  have m2 : ∀ {p : Ent}, p ∈ L.eraseIdx i → p ∈ L := fun hp => (List.eraseIdx_sublist L i).subset hp
  refine st.callY h ho (fun c hc => ?_) (fun p hp => ?_) (((((st.erase i).erase j).erase m).erase n).dis)
  · rcases List.mem_append.1 hc with hc | hc
    · rcases List.mem_append.1 hc with hc | hc
      · rcases List.mem_append.1 hc with hc | hc
        · exact ⟨_, List.mem_of_getElem? hi, rfl, by simpa using hc⟩
        · exact ⟨_, (erase_ne st hi _ (List.mem_of_getElem? hj)).1, rfl, by simpa using hc⟩
      · exact ⟨_, m2 ((List.eraseIdx_sublist _ j).subset (List.mem_of_getElem? hm)), rfl, by simpa using hc⟩
    · exact ⟨_, (e1 _ (List.mem_of_getElem? hn)).1, rfl, by simpa using hc⟩
  · obtain ⟨h1, h2⟩ := erase_ne (((st.erase i).erase j).erase m) hn p hp
    obtain ⟨h3, h4⟩ := e1 p h1
    refine ⟨h3, fun c hc => ?_⟩
    rcases List.mem_append.1 hc with h5 | h5
    · exact h4 c h5
    · exact h2 c h5
theorem bload_0 {H : Hp} {u : Nat} {om : Int} {i0 i1 i2 i3 : ByteArray} {pr : Int} {dv k pg tb q : Nat} {pe : Value} {fa ct : Int} (st0 : Stt [] H H [⟨some u, false, ⟨true, 103, [.string i0, .string i1, .string i2, .string i3, .int .u8 pr, zP dv, zP k, zP pg, zP tb, zP q, pe, .int .u32 0, .int .i32 om, .int .u32 0, .int .i64 fa, .int .i64 ct]⟩⟩]) :
  ACalls Tryz.prog 70 [.pointer (some ⟨u, 11, none⟩)] H (fun v H' => v = .bool false ∧ Stt [] H H' []) := by
 refine acallsW Tryz.func70 f70_ok (Nat.le_of_ble_eq_true rfl) fun hw => ?_
 have st : Stt [] H H [] := Stt.start hw
 replace st := st0
 unfold f70c
 refine zw ?_
 refine zm ?_
 refine zw ?_
 iterate 3 refine zm ?_
 refine aX (x_load Tryz.func116 (by kernel_rfl) (by kernel_rfl) (by kernel_rfl) .u32 (by kernel_rfl) (get1_of (st.get (j := 0) rfl) rfl)) fun v6 H1 ⟨hv, hH⟩ => ?_
 subst hv hH
 refine zb (.bool false) ?_
 refine zm ?_
 refine sE ?_
 refine ⟨_, out1 zr, ?_⟩
 exact ⟨rfl, st.drop⟩
theorem bload_1 {H : Hp} {u : Nat} {om : Int} {i0 i1 i2 i3 : ByteArray} {pr : Int} {dv k pg tb q : Nat} {pe : Value} {fa ct : Int} (st0 : Stt [] H H [⟨some u, false, ⟨true, 103, [.string i0, .string i1, .string i2, .string i3, .int .u8 pr, zP dv, zP k, zP pg, zP tb, zP q, pe, .int .u32 1, .int .i32 om, .int .u32 0, .int .i64 fa, .int .i64 ct]⟩⟩]) :
  ACalls Tryz.prog 70 [.pointer (some ⟨u, 11, none⟩)] H (fun v H' => v = .bool true ∧ Stt [] H H' []) := by
 refine acallsW Tryz.func70 f70_ok (Nat.le_of_ble_eq_true rfl) fun hw => ?_
 have st : Stt [] H H [] := Stt.start hw
 replace st := st0
 unfold f70c
 refine zw ?_
 refine zm ?_
 refine zw ?_
 iterate 3 refine zm ?_
 refine aX (x_load Tryz.func116 (by kernel_rfl) (by kernel_rfl) (by kernel_rfl) .u32 (by kernel_rfl) (get1_of (st.get (j := 0) rfl) rfl)) fun v6 H1 ⟨hv, hH⟩ => ?_
 subst hv hH
 refine zb (.bool true) ?_
 refine zm ?_
 refine sE ?_
 refine ⟨_, out1 zr, ?_⟩
 exact ⟨rfl, st.drop⟩
theorem once_0 {H : Hp} {w sb db u bu : Nat} {wv : Value} {c : List (Value × Value)} {fp : ByteArray} {ops stop : Int} {i0 i1 i2 i3 : ByteArray} {pr : Int} {dv k pg tb q : Nat} {pe : Value} {fa ct : Int} (st0 : Stt ([w] ++ [k] ++ [q] ++ [u]) H H [⟨some w, true, zW sb db wv ops stop⟩, ⟨some k, true, ⟨true, 178, [zP w, .string fp, .bool false, .int .i64 (-1), .int .u64 0]⟩⟩, ⟨some q, true, ⟨true, 154, [.slice none 0 0, .slice none 0 0, .slice none 0 0, .slice none 0 0, .slice none 0 0, .slice none 0 0, .slice none 0 0, .slice none 0 0]⟩⟩, ⟨some u, true, ⟨true, 103, [.string i0, .string i1, .string i2, .string i3, .int .u8 pr, zP dv, zP k, zP pg, zP tb, zP q, pe, .int .u32 0, .int .i32 0, .int .u32 0, .int .i64 fa, .int .i64 ct]⟩⟩, ⟨some sb, false, ⟨true, .mp c, []⟩⟩, ⟨some bu, false, ⟨true, 27, [zP u]⟩⟩]) (hfp : 1 ≤ fp.size ∧ fp.size ≤ 30) (hf0 : Found c ((fp ++ ⟨#[46]⟩) ++ ⟨#[48]⟩) none) (hf1 : Found c ((fp ++ ⟨#[46]⟩) ++ ⟨#[49]⟩) none) (ho : 0 ≤ ops ∧ ops ≤ 900000000) (hs : stop < 0) :
  ACalls Tryz.prog 43 [.pointer (some ⟨u, 11, none⟩), .func (.func 44) #[] #[zP bu]] H (fun v H' => ∃ b0 b1 b2 b3 b4 b5 b6 b7, v = .tuple #[] ∧ Stt ([w] ++ [k] ++ [q] ++ [u]) H H' [⟨some w, true, zW sb db wv (ops + 2) stop⟩, ⟨some k, true, ⟨true, 178, [zP w, .string fp, .bool true, .int .i64 (-1), .int .u64 0]⟩⟩, ⟨some q, true, ⟨true, 154, [.slice (some ⟨b0, 0, none⟩) 1 1, .slice (some ⟨b1, 0, none⟩) 1 1, .slice (some ⟨b2, 0, none⟩) 1 1, .slice (some ⟨b3, 0, none⟩) 1 1, .slice (some ⟨b4, 0, none⟩) 1 1, .slice (some ⟨b5, 0, none⟩) 1 1, .slice (some ⟨b6, 0, none⟩) 1 1, .slice (some ⟨b7, 0, none⟩) 1 1]⟩⟩, ⟨some u, true, ⟨true, 103, [.string i0, .string i1, .string i2, .string i3, .int .u8 pr, zP dv, zP k, zP pg, zP tb, zP q, pe, .int .u32 1, .int .i32 0, .int .u32 0, .int .i64 0, .int .i64 ct]⟩⟩, ⟨some b0, true, ⟨true, 23, [.int .u16 10496]⟩⟩, ⟨some b1, true, ⟨true, 23, [.int .u16 10496]⟩⟩, ⟨some b2, true, ⟨true, 23, [.int .u16 10496]⟩⟩, ⟨some b3, true, ⟨true, 23, [.int .u16 10496]⟩⟩, ⟨some b4, true, ⟨true, 23, [.int .u16 10496]⟩⟩, ⟨some b5, true, ⟨true, 23, [.int .u16 10496]⟩⟩, ⟨some b6, true, ⟨true, 23, [.int .u16 10496]⟩⟩, ⟨some b7, true, ⟨true, 23, [.int .u16 10496]⟩⟩]) := by
 refine acallsW Tryz.func43 f43_ok (Nat.le_of_ble_eq_true rfl) fun hw => ?_
 have st : Stt ([w] ++ [k] ++ [q] ++ [u]) H H [] := Stt.start hw
 replace st := st0
 unfold f43c
 refine zw ?_
 iterate 3 refine zm ?_
 refine aC (bload_0 (zM st [] [3])) fun v7 H1 ⟨hv, st1⟩ => ?_
 subst hv
 replace st := st.call st1 rfl
 clear st1
 refine zm ?_
 show AW _ (.cond _ _ _) _ _ _
 refine cT rfl ?_
 refine zw ?_
 iterate 2 refine zm ?_
 refine aC (slow_call (st.takeW [0, 1, 2, 3] [4, 5] (by decide) (by intro p hp b hb; simp at hp; rcases hp with rfl | rfl | rfl | rfl <;> simp_all)) hfp hf0 hf1 ho hs) fun v11 H2 ⟨b0, b1, b2, b3, b4, b5, b6, b7, hv, st1⟩ => ?_
 subst hv
 replace st := st.call4 (o1 := some w) (o2 := some k) (o3 := some q) (o4 := some u) 0 0 0 0 rfl rfl rfl rfl st1 rfl
 clear st1
 refine sE ?_
 refine ⟨_, rfl , ?_⟩
 exact ⟨b0, b1, b2, b3, b4, b5, b6, b7, rfl, st.sel [0, 1, 2, 3, 4, 5, 6, 7, 8, 9, 10, 11] (by decide)⟩
theorem once_1 {H : Hp} {u : Nat} {om : Int} {fv : Value} {i0 i1 i2 i3 : ByteArray} {pr : Int} {dv k pg tb q : Nat} {pe : Value} {fa ct : Int} (st0 : Stt [] H H [⟨some u, false, ⟨true, 103, [.string i0, .string i1, .string i2, .string i3, .int .u8 pr, zP dv, zP k, zP pg, zP tb, zP q, pe, .int .u32 1, .int .i32 om, .int .u32 0, .int .i64 fa, .int .i64 ct]⟩⟩]) :
  ACalls Tryz.prog 43 [.pointer (some ⟨u, 11, none⟩), fv] H (fun v H' => v = .tuple #[] ∧ Stt [] H H' []) := by
 refine acallsW Tryz.func43 f43_ok (Nat.le_of_ble_eq_true rfl) fun hw => ?_
 have st : Stt [] H H [] := Stt.start hw
 replace st := st0
 unfold f43c
 refine zw ?_
 iterate 3 refine zm ?_
 refine aC (bload_1 (zM st [] [0])) fun v7 H1 ⟨hv, st1⟩ => ?_
 subst hv
 replace st := st.call st1 rfl
 clear st1
 refine zm ?_
 refine zf ?_
 refine ⟨_, rfl , ?_⟩
 exact ⟨rfl, st.drop⟩
theorem start_0 {H : Hp} {w sb db u : Nat} {wv : Value} {c : List (Value × Value)} {fp : ByteArray} {ops stop : Int} {i0 i1 i2 i3 : ByteArray} {pr : Int} {dv k pg tb q : Nat} {pe : Value} {fa ct : Int} (st0 : Stt ([w] ++ [k] ++ [q] ++ [u]) H H [⟨some w, true, zW sb db wv ops stop⟩, ⟨some k, true, ⟨true, 178, [zP w, .string fp, .bool false, .int .i64 (-1), .int .u64 0]⟩⟩, ⟨some q, true, ⟨true, 154, [.slice none 0 0, .slice none 0 0, .slice none 0 0, .slice none 0 0, .slice none 0 0, .slice none 0 0, .slice none 0 0, .slice none 0 0]⟩⟩, ⟨some u, true, ⟨true, 103, [.string i0, .string i1, .string i2, .string i3, .int .u8 pr, zP dv, zP k, zP pg, zP tb, zP q, pe, .int .u32 0, .int .i32 0, .int .u32 0, .int .i64 fa, .int .i64 ct]⟩⟩, ⟨some sb, false, ⟨true, .mp c, []⟩⟩]) (hfp : 1 ≤ fp.size ∧ fp.size ≤ 30) (hf0 : Found c ((fp ++ ⟨#[46]⟩) ++ ⟨#[48]⟩) none) (hf1 : Found c ((fp ++ ⟨#[46]⟩) ++ ⟨#[49]⟩) none) (ho : 0 ≤ ops ∧ ops ≤ 900000000) (hs : stop < 0) :
  ACalls Tryz.prog 22 [zP u] H (fun v H' => ∃ b0 b1 b2 b3 b4 b5 b6 b7, v = .int .i64 0 ∧ Stt ([w] ++ [k] ++ [q] ++ [u]) H H' [⟨some w, true, zW sb db wv (ops + 2) stop⟩, ⟨some k, true, ⟨true, 178, [zP w, .string fp, .bool true, .int .i64 (-1), .int .u64 0]⟩⟩, ⟨some q, true, ⟨true, 154, [.slice (some ⟨b0, 0, none⟩) 1 1, .slice (some ⟨b1, 0, none⟩) 1 1, .slice (some ⟨b2, 0, none⟩) 1 1, .slice (some ⟨b3, 0, none⟩) 1 1, .slice (some ⟨b4, 0, none⟩) 1 1, .slice (some ⟨b5, 0, none⟩) 1 1, .slice (some ⟨b6, 0, none⟩) 1 1, .slice (some ⟨b7, 0, none⟩) 1 1]⟩⟩, ⟨some u, true, ⟨true, 103, [.string i0, .string i1, .string i2, .string i3, .int .u8 pr, zP dv, zP k, zP pg, zP tb, zP q, pe, .int .u32 1, .int .i32 0, .int .u32 0, .int .i64 0, .int .i64 ct]⟩⟩, ⟨some b0, true, ⟨true, 23, [.int .u16 10496]⟩⟩, ⟨some b1, true, ⟨true, 23, [.int .u16 10496]⟩⟩, ⟨some b2, true, ⟨true, 23, [.int .u16 10496]⟩⟩, ⟨some b3, true, ⟨true, 23, [.int .u16 10496]⟩⟩, ⟨some b4, true, ⟨true, 23, [.int .u16 10496]⟩⟩, ⟨some b5, true, ⟨true, 23, [.int .u16 10496]⟩⟩, ⟨some b6, true, ⟨true, 23, [.int .u16 10496]⟩⟩, ⟨some b7, true, ⟨true, 23, [.int .u16 10496]⟩⟩]) := by
 refine acallsW Tryz.func22 f22_ok (Nat.le_of_ble_eq_true rfl) fun hw => ?_
 have st : Stt ([w] ++ [k] ++ [q] ++ [u]) H H [] := Stt.start hw
 replace st := st0
 unfold f22c
 refine zw ?_
 refine aBoxN st rfl rfl (by repeat constructor) rfl fun bx H1 st => ?_
 refine zm ?_
 refine zw ?_
 refine zl st 0 ?_
 refine zb (.bool false) ?_
 refine zm ?_
 refine zg ?_
 refine zl st 0 ?_
 refine zg ?_
 refine zm ?_
 refine zg ?_
 refine zm ?_
 refine zg ?_
 refine zl st 4 ?_
 refine zg ?_
 refine zb (.bool false) ?_
 refine zm ?_
 refine zf ?_
 refine zw ?_
 refine zl st 0 ?_
 iterate 2 refine zm ?_
 refine aMkFunc rfl rfl ?_
 refine aC (once_0 (st.takeW [1, 2, 3, 4] [5, 0] (by decide) (by intro p hp b hb; simp at hp; rcases hp with rfl | rfl | rfl | rfl <;> simp_all)) hfp hf0 hf1 ho hs) fun v16 H2 ⟨b0, b1, b2, b3, b4, b5, b6, b7, hv, st1⟩ => ?_
 subst hv
 replace st := st.call4 (o1 := some w) (o2 := some k) (o3 := some q) (o4 := some u) 1 1 1 1 rfl rfl rfl rfl st1 rfl
 clear st1
 refine zw ?_
 refine zl st 12 ?_
 iterate 2 refine zm ?_
 refine zl st 3 ?_
 refine zm ?_
 refine sE ?_
 refine ⟨_, out1 zr, ?_⟩
 exact ⟨b0, b1, b2, b3, b4, b5, b6, b7, rfl, st.sel [0, 1, 2, 3, 4, 5, 6, 7, 8, 9, 10, 11] (by decide)⟩
theorem start_1 {H : Hp} {u : Nat} {om : Int} {i0 i1 i2 i3 : ByteArray} {pr : Int} {dv k pg tb q : Nat} {pe : Value} {fa ct : Int} (st0 : Stt [] H H [⟨some u, false, ⟨true, 103, [.string i0, .string i1, .string i2, .string i3, .int .u8 pr, zP dv, zP k, zP pg, zP tb, zP q, pe, .int .u32 1, .int .i32 om, .int .u32 0, .int .i64 fa, .int .i64 ct]⟩⟩]) :
  ACalls Tryz.prog 22 [zP u] H (fun v H' => v = .int .i64 fa ∧ Stt [] H H' []) := by
 refine acallsW Tryz.func22 f22_ok (Nat.le_of_ble_eq_true rfl) fun hw => ?_
 have st : Stt [] H H [] := Stt.start hw
 replace st := st0
 unfold f22c
 refine zw ?_
 refine aBoxN st rfl rfl (by repeat constructor) rfl fun bx H1 st => ?_
 refine zm ?_
 refine zw ?_
 refine zl st 0 ?_
 refine zb (.bool false) ?_
 refine zm ?_
 refine zg ?_
 refine zl st 0 ?_
 refine zg ?_
 refine zm ?_
 refine zg ?_
 refine zm ?_
 refine zg ?_
 refine zl st 1 ?_
 refine zg ?_
 refine zb (.bool false) ?_
 refine zm ?_
 refine zf ?_
 refine zw ?_
 refine zl st 0 ?_
 iterate 2 refine zm ?_
 refine aMkFunc rfl rfl ?_
 refine aC (once_1 (zM st [] [1])) fun v16 H2 ⟨hv, st1⟩ => ?_
 subst hv
 replace st := st.call st1 rfl
 clear st1
 refine zw ?_
 refine zl st 0 ?_
 iterate 2 refine zm ?_
 refine zl st 1 ?_
 refine zm ?_
 refine sE ?_
 refine ⟨_, out1 zr, ?_⟩
 exact ⟨rfl, st.drop⟩
theorem uadd_call {H : Hp} {u : Nat} {om : Int} {i0 i1 i2 i3 : ByteArray} {pr : Int} {dv k pg tb q : Nat} {pe : Value} {od fa ct : Int} (st0 : Stt [u] H H [⟨some u, true, ⟨true, 103, [.string i0, .string i1, .string i2, .string i3, .int .u8 pr, zP dv, zP k, zP pg, zP tb, zP q, pe, .int .u32 od, .int .i32 om, .int .u32 0, .int .i64 fa, .int .i64 ct]⟩⟩]) :
  ACalls Tryz.prog 21 [.pointer (some ⟨u, 15, none⟩), .int .i64 1] H (fun v H' => ∃ n, v = .int .i64 n ∧ Stt [u] H H' [⟨some u, true, ⟨true, 103, [.string i0, .string i1, .string i2, .string i3, .int .u8 pr, zP dv, zP k, zP pg, zP tb, zP q, pe, .int .u32 od, .int .i32 om, .int .u32 0, .int .i64 fa, .int .i64 (IntKind.i64.wrap (ct + 1))]⟩⟩]) := by
 refine acallsW Tryz.func21 f21_ok (Nat.le_of_ble_eq_true rfl) fun hw => ?_
 have st : Stt [u] H H [] := Stt.start hw
 replace st := st0
 unfold f21c
 refine zw ?_
 refine zm ?_
 refine zw ?_
 iterate 4 refine zm ?_
 have hu9 := st.get (j := 0) rfl
 refine aX (x_add Tryz.func42 (by kernel_rfl) (by kernel_rfl) (by kernel_rfl) .i64 (by kernel_rfl) (get1_of hu9 (o := 15) (x := .int .i64 ct) rfl) (s := (IntKind.i64.wrap (ct + 1))) rfl (put_of hu9 (o := 15) rfl rfl (Nat.le_of_ble_eq_true rfl))) fun v9 H1 ⟨hv, hH⟩ => ?_
 subst hv hH
 have st := st.put (j := 0) rfl [.string i0, .string i1, .string i2, .string i3, .int .u8 pr, zP dv, zP k, zP pg, zP tb, zP q, pe, .int .u32 od, .int .i32 om, .int .u32 0, .int .i64 fa, .int .i64 (IntKind.i64.wrap (ct + 1))]
 refine zm ?_
 refine sE ?_
 refine ⟨_, out1 zr, ?_⟩
 exact ⟨_, rfl, st.sel [0] (by decide)⟩
end Go.Proofs.YtjmjkdelkaflmaaGreatDoor.Abs
