/- Helpers. -/
import Derived.Test.YtjmjkdelkaflmaaGreatDoorC1
import Derived.Test.YtjmjkdelkaflmaaGreatDoorXH
set_option linter.unusedVariables false
set_option linter.unusedSimpArgs false
set_option maxRecDepth 100000
namespace Go.Proofs.YtjmjkdelkaflmaaGreatDoor.Abs
open Go Go.RowKit
theorem Stt.callY {X Y : List Nat} {H0 H H' : Hp} {L L' L2 : List Ent} (st : Stt X H0 H L) (h : Stt Y H H' L') (ho : L'.all (·.ok) = true) (hY : ∀ c ∈ Y, ∃ p ∈ L, p.ok = true ∧ p.key = some c) (h2 : ∀ p ∈ L2, p ∈ L ∧ ∀ c ∈ Y, p.key ≠ some c) (hd : (L2.filterMap (·.key)).Nodup) : Stt X H0 H' (L' ++ L2) := by
 have hYo : ∀ c ∈ Y, H0.nx ≤ c ∨ c ∈ X := fun c hc => by
  obtain ⟨p, hp, hk, e⟩ := hY c hc
  exact (st.own p hp hk).2 c e
 have hnew : ∀ p ∈ L', ∀ c, p.key = some c → H.nx ≤ c ∨ c ∈ Y := fun p hp c hc => (h.own p hp (List.all_eq_true.1 ho p hp)).2 c hc
 refine ⟨st.wf0, h.wf, Nat.le_trans st.nx h.nx, fun c hc hx => ?_, fun p hp => ?_, fun p hp hok => ?_, ?_⟩
 ·have := st.nx
  rw [h.frm c (by omega) ?_]
  ·exact st.frm c hc hx
  ·intro hcb
   rcases hYo c hcb with h1 | h1
   ·omega
   ·exact hx h1
 ·rcases List.mem_append.1 hp with hp | hp
  ·exact h.has p hp
  ·obtain ⟨h1, h3⟩ := h2 p hp
   exact ⟨fun c hc => by rw [h.frm c (key_lt st h1 hc) (fun e => h3 c e hc)]; exact (st.has p h1).1 c hc, (st.has p h1).2⟩
 ·rcases List.mem_append.1 hp with hp | hp
  ·refine ⟨(h.own p hp hok).1, fun c hc => ?_⟩
   rcases hnew p hp c hc with h1 | h1
   ·have := st.nx
    exact .inl (by omega)
   ·exact hYo c h1
  ·exact st.own p (h2 p hp).1 hok
 ·rw [List.filterMap_append]
  refine nodup_app h.dis hd fun c hc hc' => ?_
  obtain ⟨p, hp, he⟩ := List.mem_filterMap.1 hc
  obtain ⟨q, hq, hf⟩ := List.mem_filterMap.1 hc'
  obtain ⟨h3, h4⟩ := h2 q hq
  rcases hnew p hp c he with h1 | h1
  ·have := key_lt st h3 hf
   omega
  ·exact h4 c h1 hf
theorem erase_ne {X : List Nat} {H0 H : Hp} {L : List Ent} (st : Stt X H0 H L) {i : Nat} {ob : Option Nat} {ok : Bool} {k : Blk} (hi : L[i]? = some ⟨ob, ok, k⟩) : ∀ p ∈ L.eraseIdx i, p ∈ L ∧ ∀ c ∈ ob.toList, p.key ≠ some c := fun p hp => by
 obtain ⟨m, hm, hpm⟩ := List.mem_eraseIdx_iff_getElem?.1 hp
 refine ⟨List.mem_of_getElem? hpm, fun c hc e => ?_⟩
 have hc : ob = some c := by simpa using hc
 exact hm (nodup_keys st.dis hpm hi e hc)
theorem Stt.erase {X : List Nat} {H0 H : Hp} {L : List Ent} (st : Stt X H0 H L) (i : Nat) : Stt X H0 H (L.eraseIdx i) := st.sub (fun p hp => (List.eraseIdx_sublist L i).subset hp) (List.Nodup.sublist ((List.eraseIdx_sublist L i).filterMap _) st.dis)
theorem Stt.call2 {X : List Nat} {H0 H H' : Hp} {L L' : List Ent} {o1 o2 : Option Nat} {k1 k2 : Blk} (st : Stt X H0 H L) (i j : Nat) (hi : L[i]? = some ⟨o1, true, k1⟩) (hj : (L.eraseIdx i)[j]? = some ⟨o2, true, k2⟩) (h : Stt (o1.toList ++ o2.toList) H H' L') (ho : L'.all (·.ok) = true) : Stt X H0 H' (L' ++ (L.eraseIdx i).eraseIdx j) := by
 refine st.callY h ho (fun c hc => ?_) (fun p hp => ?_) (((st.erase i).erase j).dis)
 ·rcases List.mem_append.1 hc with h1 | h1
  ·exact ⟨_, List.mem_of_getElem? hi, rfl, by simpa using h1⟩
  ·exact ⟨_, (erase_ne st hi _ (List.mem_of_getElem? hj)).1, rfl, by simpa using h1⟩
 ·obtain ⟨h1, h2⟩ := erase_ne (st.erase i) hj p hp
  obtain ⟨h3, h4⟩ := erase_ne st hi p h1
  refine ⟨h3, fun c hc => ?_⟩
  rcases List.mem_append.1 hc with h5 | h5
  ·exact h4 c h5
  ·exact h2 c h5
theorem Stt.call3 {X : List Nat} {H0 H H' : Hp} {L L' : List Ent} {o1 o2 o3 : Option Nat} {k1 k2 k3 : Blk} (st : Stt X H0 H L) (i j m : Nat) (hi : L[i]? = some ⟨o1, true, k1⟩) (hj : (L.eraseIdx i)[j]? = some ⟨o2, true, k2⟩) (hm : ((L.eraseIdx i).eraseIdx j)[m]? = some ⟨o3, true, k3⟩) (h : Stt (o1.toList ++ o2.toList ++ o3.toList) H H' L') (ho : L'.all (·.ok) = true) : Stt X H0 H' (L' ++ ((L.eraseIdx i).eraseIdx j).eraseIdx m) := by
 have e1 : ∀ p ∈ (L.eraseIdx i).eraseIdx j, p ∈ L ∧ ∀ c ∈ o1.toList ++ o2.toList, p.key ≠ some c := fun p hp => by
  obtain ⟨h1, h2⟩ := erase_ne (st.erase i) hj p hp
  obtain ⟨h3, h4⟩ := erase_ne st hi p h1
  refine ⟨h3, fun c hc => ?_⟩
  rcases List.mem_append.1 hc with h5 | h5
  ·exact h4 c h5
  ·exact h2 c h5
 refine st.callY h ho (fun c hc => ?_) (fun p hp => ?_) ((((st.erase i).erase j).erase m).dis)
 ·rcases List.mem_append.1 hc with h0 | h1
  ·rcases List.mem_append.1 h0 with h1 | h1
   ·exact ⟨_, List.mem_of_getElem? hi, rfl, by simpa using h1⟩
   ·exact ⟨_, (erase_ne st hi _ (List.mem_of_getElem? hj)).1, rfl, by simpa using h1⟩
  ·exact ⟨_, (e1 _ (List.mem_of_getElem? hm)).1, rfl, by simpa using h1⟩
 ·obtain ⟨h1, h2⟩ := erase_ne ((st.erase i).erase j) hm p hp
  obtain ⟨h3, h4⟩ := e1 p h1
  refine ⟨h3, fun c hc => ?_⟩
  rcases List.mem_append.1 hc with h5 | h5
  ·exact h4 c h5
  ·exact h2 c h5
section
variable {tk : Nat} {k : IntKind} {a b c : Int}
theorem remN {n m : Nat} (hm : 0 < m) : aBin tk .rem (.int k (n : Int)) (.int k (m : Int)) = some (.int k ((n % m : Nat) : Int)) := by
 simp only [aBin, isShift, aInt, if_neg (show ¬ ((m : Int) = 0) by omega)]
 simp [Int.tmod_eq_emod_of_nonneg (Int.natCast_nonneg n)]
theorem addI (h : a + b = c) (hc : -9223372036854775808 ≤ c ∧ c < 9223372036854775808) : aBin tk .add (.int .i64 a) (.int .i64 b) = some (.int .i64 c) := by
 simp only [aBin, isShift, aInt, if_true, if_false, Bool.false_eq_true]
 rw [h, wi c hc]
theorem subI (h : a - b = c) (hc : -9223372036854775808 ≤ c ∧ c < 9223372036854775808) : aBin tk .sub (.int .i64 a) (.int .i64 b) = some (.int .i64 c) := by
 simp only [aBin, isShift, aInt, if_true, if_false, Bool.false_eq_true]
 rw [h, wi c hc]
theorem eqT (h : a = b) : aBin tk .eql (.int k a) (.int k b) = some (.bool true) := by simp [aBin, isShift, aInt, h]
theorem eqF (h : a ≠ b) : aBin tk .eql (.int k a) (.int k b) = some (.bool false) := by simp [aBin, isShift, aInt, h]
theorem neT (h : a ≠ b) : aBin tk .neq (.int k a) (.int k b) = some (.bool true) := by simp [aBin, isShift, aInt, h]
theorem neF (h : a = b) : aBin tk .neq (.int k a) (.int k b) = some (.bool false) := by simp [aBin, isShift, aInt, h]
theorem gtT (h : b < a) : aBin tk .gtr (.int k a) (.int k b) = some (.bool true) := by simp [aBin, isShift, aInt, h]
theorem gtF (h : a ≤ b) : aBin tk .gtr (.int k a) (.int k b) = some (.bool false) := by simp [aBin, isShift, aInt]; omega
theorem ltT (h : a < b) : aBin tk .lss (.int k a) (.int k b) = some (.bool true) := by simp [aBin, isShift, aInt, h]
theorem ltF (h : b ≤ a) : aBin tk .lss (.int k a) (.int k b) = some (.bool false) := by simp [aBin, isShift, aInt]; omega
end
section
variable {P : Program} {R : Tm → Hp → Prop} {t : Tm} {X : List Nat} {H0 H : Hp} {L : List Ent} {d : Option Nat} {x y : Opd}
theorem aMinV {k : IntKind} {a b r : Int} (hx : ev t x = .int k a) (hy : ev t y = .int k b) (h : (if b < a then b else a) = r) (kk : R (upd t d (.int k r)) H) : aStep P ⟨d, .minmax false x y, none⟩ R t H := by
 subst h
 exact aMin hx hy kk
theorem aMaxV {k : IntKind} {a b r : Int} (hx : ev t x = .int k a) (hy : ev t y = .int k b) (h : (if a < b then b else a) = r) (kk : R (upd t d (.int k r)) H) : aStep P ⟨d, .minmax true x y, none⟩ R t H := by
 subst h
 exact aMax hx hy kk
end
def pc (ls : List Int) (g j : Nat) : List Int := (ls.drop (j * g)).take g
@[reducible] def DZ : Type := Nat × Option Nat
@[simp] theorem ET.lit (n : Nat) : (@OfNat.ofNat ET n _) = ET.ty n := rfl
section
variable {P : Program} {R : Tm → Hp → Prop} {t : Tm} {X : List Nat} {H0 H H' : Hp} {L : List Ent} {d : Option Nat} {x y z lo : Opd}
def Found (c : List (Value × Value)) (nm : ByteArray) (u : Option Value) : Prop :=
 match u with
 | some v => ∃ i, mpFind none (.string nm) c 0 = some (some (i, v))
 | none => mpFind none (.string nm) c 0 = some none
def mset (c : List (Value × Value)) (nm : ByteArray) (v : Value) : List (Value × Value) :=
 match mpFind none (.string nm) c 0 with
 | some (some (i, _)) => c.modify i fun _ => (.string nm, v)
 | _ => c ++ [(.string nm, v)]
theorem aMapGetF {zv v : Value} {okc ok : Bool} {b : Nat} {c : List (Value × Value)} {nm : ByteArray} {u : Option Value} (st : Stt X H0 H L) (j : Nat) (hi : L[j]? = some ⟨some b, ok, ⟨true, .mp c, []⟩⟩) (hx : ev t x = .map (some b)) (hy : ev t y = .string nm) (hf : Found c nm u)
  (hv : (if okc = true then .tuple #[u.getD zv, .bool u.isSome] else u.getD zv) = v) (kk : R (upd t d v) H) (hz0 : isTup zv = false := by rfl) : aStep P ⟨d, .mapGet none zv okc x y, none⟩ R t H := by
 subst hv
 refine aMapGet st j hi hx hy rfl ?_ kk hz0
 cases u with
 | some w => obtain ⟨i, h⟩ := hf; exact .inl ⟨i, w, h, rfl⟩
 | none => exact .inr ⟨hf, rfl⟩
theorem aMapSetF {v : Value} {b : Nat} {c : List (Value × Value)} {nm : ByteArray} {u : Option Value} (st : Stt X H0 H L) (j : Nat) (hi : L[j]? = some ⟨some b, true, ⟨true, .mp c, []⟩⟩) (hx : ev t x = .map (some b)) (hy : ev t y = .string nm) (hz : ev t z = v) (hv : oneV v = true) (hf : Found c nm u)
  (kk : ∀ H', Stt X H0 H' (L.set j ⟨some b, true, ⟨true, .mp (mset c nm v), []⟩⟩) → R (upd t d undef) H') : aStep P ⟨d, .mapSet none x y z, none⟩ R t H := by
 refine aMapSet st j hi hx hy hz rfl hv (c' := mset c nm v) ?_ kk
 cases u with
 | some w => obtain ⟨i, h⟩ := hf; exact .inl ⟨i, w, h, by simp only [mset, h]⟩
 | none => exact .inr ⟨hf, by rw [mset, show mpFind none (.string nm) c 0 = some none from hf]⟩
theorem aCutP {b n off : Nat} (hx : ev t x = .slice (some ⟨b, 0, none⟩) n 1) (hlo : ev t lo = .int .i64 (off : Int)) (h : off ≤ n) (kk : ∀ c, R (upd t d (.slice (some ⟨b, off, none⟩) (n - off) c)) H) : aStep P ⟨d, .cut 1 x (some lo) none, none⟩ R t H := by
 refine ⟨_, H, ?_, kk (if 1 = 1 ∧ (off < n ∨ off = 0) then 1 else 0)⟩
 simp only [aI, hx, Option.map_some, hlo, Option.map_none]
 rw [bound_l (by omega)]
 simp
end
theorem Stt.takeW {X Y : List Nat} {H0 H : Hp} {L : List Ent} (st : Stt X H0 H L) (is js : List Nat) (hn : (is ++ js).Nodup) (hY : ∀ p ∈ is.filterMap (L[·]?), ∀ b, p.key = some b → b ∈ Y) : Stt Y H H (is.filterMap (L[·]?) ++ (js.filterMap (L[·]?)).map fun p => ⟨p.key, false, p.blk⟩) := by
 have h1 := st.sel is (List.nodup_append.1 hn).1
 have h2 := st.sel (is ++ js) hn
 have hd : ((is.filterMap (L[·]?) ++ (js.filterMap (L[·]?)).map fun p => (⟨p.key, false, p.blk⟩ : Ent)).filterMap (·.key)) = ((is ++ js).filterMap (L[·]?)).filterMap (·.key) := by
  rw [List.filterMap_append, List.filterMap_append, List.filterMap_append, List.filterMap_map]
  rfl
 refine ⟨st.wf, st.wf, Nat.le_refl _, fun _ _ _ => rfl, fun p hp => ?_, fun p hp ho => ?_, hd ▸ h2.dis⟩
 ·rcases List.mem_append.1 hp with hp | hp
  ·exact h1.has p hp
  ·obtain ⟨q, hq, rfl⟩ := List.mem_map.1 hp
   obtain ⟨i, _, hi⟩ := List.mem_filterMap.1 hq
   exact st.has q (List.mem_of_getElem? hi)
 ·rcases List.mem_append.1 hp with hp | hp
  ·exact ⟨(h1.own p hp ho).1, fun b hb => .inr (hY p hp b hb)⟩
  ·obtain ⟨q, hq, rfl⟩ := List.mem_map.1 hp
   cases ho
section
variable {tk : Nat} {k : IntKind} {a b c : Int}
theorem geT (h : b ≤ a) : aBin tk .geq (.int k a) (.int k b) = some (.bool true) := by simp [aBin, isShift, aInt, h]
theorem geF (h : a < b) : aBin tk .geq (.int k a) (.int k b) = some (.bool false) := by simp [aBin, isShift, aInt]; omega
theorem leT (h : a ≤ b) : aBin tk .leq (.int k a) (.int k b) = some (.bool true) := by simp [aBin, isShift, aInt, h]
end
def wr (old : List Int) (off : Nat) (p : List Int) : List Int := (old ++ List.replicate (off + p.length - old.length) 0).take off ++ p ++ (old ++ List.replicate (off + p.length - old.length) 0).drop (off + p.length)
theorem wr_len (old : List Int) (off : Nat) (p : List Int) : (wr old off p).length = old.length + (off + p.length - old.length) := by
 unfold wr
 simp only [List.length_append, List.length_take, List.length_drop, List.length_replicate]
 omega

section
variable {P : Program} {R : Tm → Hp → Prop} {t : Tm} {X : List Nat} {H0 H H' : Hp} {L : List Ent} {d : Option Nat} {x y : Opd} {v : Value}
theorem zm {i : AI} {v v' : Value} (k : R (upd t d v') H') (hn : aRun P i (ev t) H (fun v H' => R (upd t d v) H') = ∃ v H', aI i (ev t) H = some (v, H') ∧ R (upd t d v) H' := by exact rfl) (h : aI i (ev t) H = some (v, H') := by exact rfl) (nf : Nf v v' := by constructor) : aStep P ⟨d, i, none⟩ R t H := aN hn h nf k
theorem zl {b o : Nat} {ok : Bool} {rw0 : Bool} {e0 : TypeId} {cs0 : List Value} {v' : Value} (st : Stt X H0 H L) (j : Nat) (kk : R (upd t d v') H) (hx : ev t x = .pointer (some ⟨b, o, none⟩) := by exact rfl) (hi : L[j]? = some ⟨some b, ok, ⟨rw0, e0, cs0⟩⟩ := by exact rfl) (hv : cs0[o]? = some v := by exact rfl) (nf : Nf v v' := by constructor) : aStep P ⟨d, .load x, none⟩ R t H := aLd st j hx hi hv nf kk
theorem zx {b o n : Nat} {u : Value} {rw0 : Bool} {e0 : TypeId} {cs0 : List Value} {cs : List Value} (st : Stt X H0 H L) (j : Nat) (kk : ∀ H', Stt X H0 H' (L.set j ⟨some b, true, ⟨true, e0, cs⟩⟩) → R (upd t d undef) H') (hx : ev t x = .pointer (some ⟨b, o, none⟩) := by exact rfl) (hi : L[j]? = some ⟨some b, true, ⟨rw0, e0, cs0⟩⟩ := by exact rfl) (hy : ev t y = u := by exact rfl) (hu : notTup u = true := by exact rfl) (hn : (cellsOf u).length = n := by first | rfl | simp [cellsOf, *]) (hl : o + n ≤ cs0.length := by first | decide | (simp [*]; done)) (nf : NfV (cs0.take o ++ cellsOf u ++ cs0.drop (o + n)) cs := by repeat constructor) : aStep P ⟨d, .store n x y, none⟩ R t H := aSt st j hx hi hy hu hn hl nf kk
theorem zb {tk : Nat} {op : BinOp} {u u' : Value} (r : Value) (kk : R (upd t d r) H) (hx : ev t x = u := by exact rfl) (hy : ev t y = u' := by exact rfl) (h : aBin tk op u u' = some r := by exact rfl) : aStep P ⟨d, .bin tk op x y, none⟩ R t H := aBinV r hx hy h kk
theorem zh {b o : Nat} {ok : Bool} {rw0 : Bool} {e0 : TypeId} {cs0 : List Value} {v' : Value} (st : Stt X H0 H L) (j : Nat) (hx : ev t x = .pointer (some ⟨b, o, none⟩) := by exact rfl) (hi : L[j]? = some ⟨some b, ok, ⟨rw0, e0, cs0⟩⟩ := by exact rfl) (hv : cs0[o]? = some v := by exact rfl) (nf : Nf v v' := by constructor) : aI (.load x) (ev t) H = some (v', H) := h_Ld st j hx hi hv nf
theorem zg {i : AI} {g : Nat} {want : Bool} (h : aStep P ⟨d, i, none⟩ R t H) (hg : t g = .bool want := by exact rfl) : aStep P ⟨d, i, some (g, want)⟩ R t H := gT hg h
theorem zk {i : AI} {g : Nat} {want b : Bool} (k : R (upd t d undef) H) (hg : t g = .bool b := by exact rfl) (hb : b ≠ want := by decide) : aStep P ⟨d, i, some (g, want)⟩ R t H := gF hg hb k
theorem zp {i : AI} {e : TypeId} {cs cs' : List Value} (st : Stt X H0 H L) (k : ∀ b H', Stt X H0 H' (⟨some b, true, ⟨true, e, cs'⟩⟩ :: L) → R (upd t d (.pointer (some ⟨b, 0, none⟩))) H') (hn : aRun P i (ev t) H (fun v H' => R (upd t d v) H') = ∃ v H', aI i (ev t) H = some (v, H') ∧ R (upd t d v) H' := by exact rfl) (h : aI i (ev t) H = some (.pointer (some ⟨H.nx, 0, none⟩), H.push ⟨true, e, cs⟩) := by exact rfl) (nf : NfL cs cs' := by repeat constructor) : aStep P ⟨d, i, none⟩ R t H := aNewP st hn h nf k
theorem zw {c : AC} {os : List AO} {Q : Exit → Tm → Hp → Prop} {K : Tm → Hp → Prop} (h : AWl P os K t H) (e : AWl P os K t H → AW P c Q t H := by exact fun x => x) : AW P c Q t H := e h
theorem zf {c a b : AC} {z : Opd} {Q Q' : Exit → Tm → Hp → Prop} (h : AW P b Q' t H) (e : AW P (.cond z a b) Q' t H → AW P c Q t H := by exact fun x => x) (hb : ev t z = .bool false := by exact rfl) : AW P c Q t H := e (cF' hb h)
theorem zv {c a b : AC} {z : Opd} {Q Q' : Exit → Tm → Hp → Prop} (h : AW P (.cond z a b) Q' t H) (e : AW P (.cond z a b) Q' t H → AW P c Q t H := by exact fun x => x) : AW P c Q t H := e h
theorem zr {x : Nat} {v' : Value} (hx : t x = v := by exact rfl) (nf : Nf v v' := by constructor) : aRes t H (.tmp x) = some v' := r_tmp hx nf
theorem zc {m x b o : Nat} {ok : Bool} {rw0 : Bool} {e0 : TypeId} {cs0 : List Value} {xs : List Value} (st : Stt X H0 H L) (j : Nat) (hx : t x = .pointer (some ⟨b, o, none⟩) := by exact rfl) (hi : L[j]? = some ⟨some b, ok, ⟨rw0, e0, cs0⟩⟩ := by exact rfl) (hl : o + m ≤ cs0.length := by first | decide | simp [*]) (nf : NfL ((cs0.drop o).take m) xs := by repeat constructor) : aRes t H (.cellA m x) = some (.agg xs.toArray) := r_cellA st j hx hi hl nf
end
abbrev zP (b : Nat) : Value := .pointer (some ⟨b, 0, none⟩)
abbrev zR : Value := .agg #[.int .u8 0, .int .u8 0, .int .u16 0, .int .u64 0, .bool false, .int .i64 0, .int .i64 0, .bool false, .bool false, .slice none 0 0]
abbrev zU (s : ByteArray) (p : Int) (dv k pg tb q : Nat) (pe : Value) (a om ct : Int) : Blk := ⟨true, 103, [.string ⟨#[]⟩, .string ⟨#[]⟩, .string ⟨#[]⟩, .string s, .int .u8 p, zP dv, zP k, zP pg, zP tb, zP q, pe, .int .u32 a, .int .i32 om, .int .u32 0, .int .i64 0, .int .i64 ct]⟩
abbrev zW (sb db : Nat) (wv : Value) (ops stop : Int) : Blk := ⟨true, 73, [.map (some sb), .map (some db), wv, .int .i64 ops, .map none, .int .i64 stop, .bool false]⟩
abbrev zS (w : Nat) (nm : ByteArray) (nb : Int) : Blk := ⟨true, 176, [zP w, .string nm, .int .i64 nb, .bool true]⟩
abbrev zG : Blk := ⟨true, 162, [.bool true, .bool false, .bool false, .bool true, .bool false, .bool false]⟩
abbrev zT : Blk := ⟨true, 157, [.slice none 0 0, .int .u32 0, .int .u8 0, .int .i64 (-1), .bool false]⟩
abbrev zD (s : Nat) (p : Int) : Blk := ⟨true, 134, [zP s, .int .u8 p]⟩
theorem zM {X Y : List Nat} {H0 H : Hp} {L : List Ent} (st : Stt X H0 H L) (is js : List Nat) (hn : (is ++ js).Nodup := by decide) (hY : ∀ p ∈ is.filterMap (L[·]?), ∀ b, p.key = some b → b ∈ Y := by intro p hp; cases hp) : Stt Y H H (is.filterMap (L[·]?) ++ (js.filterMap (L[·]?)).map fun p => ⟨p.key, false, p.blk⟩) := st.takeW is js hn hY
theorem zN {X Y : List Nat} {H0 H : Hp} {L : List Ent} (st : Stt X H0 H L) (is js : List Nat) (hn : (is ++ js).Nodup := by decide) (hY : ∀ p ∈ is.filterMap (L[·]?), ∀ b, p.key = some b → b ∈ Y := by intro p hp b hb; simp at hp; first | (rcases hp with rfl | rfl | rfl | rfl | rfl | rfl <;> simp_all) | (rcases hp with rfl | rfl | rfl | rfl | rfl <;> simp_all) | (rcases hp with rfl | rfl | rfl | rfl <;> simp_all) | (rcases hp with rfl | rfl | rfl <;> simp_all) | (rcases hp with rfl | rfl <;> simp_all) | (subst hp; simp_all)) : Stt Y H H (is.filterMap (L[·]?) ++ (js.filterMap (L[·]?)).map fun p => ⟨p.key, false, p.blk⟩) := st.takeW is js hn hY
theorem zq : (∀ (p : Prop) [Decidable p], (decide p = true) = p) ∧ (∀ {p : Prop} [Decidable p], (decide p = false) ↔ ¬p) ∧ (∀ {α : Type} [BEq α] [LawfulBEq α] {a b : α}, (a == b) = true ↔ a = b) ∧ (∀ {α : Type} [BEq α] [LawfulBEq α] {a b : α}, (a == b) = false ↔ a ≠ b) ∧ (∀ {α : Type} (a b : α), (a ≠ b) = ¬(a = b)) ∧ (∀ {p : Prop} [Decidable p], ¬¬p ↔ p) ∧ (∀ (b : Bool), (¬(b = true)) = (b = false)) ∧ (∀ (b : Bool), (¬(b = false)) = (b = true)) ∧ (∀ {x y : Int}, x > y ↔ y < x) ∧ (∀ {x y : Nat}, x > y ↔ y < x) ∧ (∀ {x y : Int}, x ≥ y ↔ y ≤ x) ∧ (∀ {x y : Nat}, x ≥ y ↔ y ≤ x) ∧ (∀ {a b : Int}, ¬a < b ↔ b ≤ a) ∧ (∀ {a b : Int}, ¬a ≤ b ↔ b < a) ∧ (∀ {α : Type} [BEq α] [LawfulBEq α] (a b : α), (a != b) = true ↔ a ≠ b) ∧ (∀ {α : Type} [BEq α] [LawfulBEq α] (a b : α), (a != b) = false ↔ a = b) :=
  ⟨fun _ _ => decide_eq_true_eq, decide_eq_false_iff_not, beq_iff_eq, beq_eq_false_iff_ne, ne_eq, Decidable.not_not, Bool.not_eq_true, Bool.not_eq_false, gt_iff_lt, gt_iff_lt, ge_iff_le, ge_iff_le, Int.not_lt, Int.not_le, fun _ _ => bne_iff_ne, fun _ _ => bne_eq_false_iff_eq⟩
theorem name_call {H : Hp} {nm : ByteArray} (h1 : 1 ≤ nm.size) (h2 : nm.size ≤ 32) :
  ACalls Tryz.prog 153 [.string nm] H (fun v H' => v = .bool true ∧ Stt [] H H' []) := by
 refine acallsW Tryz.func153 f153_ok (Nat.le_of_ble_eq_true rfl) fun hw => ?_
 have st : Stt [] H H [] := Stt.start hw
 unfold f153c
 refine zw ?_
 refine zm ?_
 refine zw ?_
 iterate 2 refine zm ?_
 refine aBinV (.bool true) rfl rfl (geT (by omega)) ?_
 refine zm ?_
 refine zg ?_
 refine zm ?_
 refine zg ?_
 refine zm ?_
 refine zg ?_
 refine aBinV (.bool true) rfl rfl (leT (by omega)) ?_
 iterate 2 refine zm ?_
 refine sE ?_
 refine ⟨_, out1 zr, ?_⟩
 exact ⟨rfl, st.drop⟩
theorem call_ok {H : Hp} {w sb db : Nat} {wv : Value} {ops stop : Int} (st0 : Stt [w] H H [⟨some w, true, zW sb db wv ops stop⟩]) (ho : 0 ≤ ops ∧ ops ≤ 1000000000) (hs : ops ≠ stop) :
  ACalls Tryz.prog 154 [zP w] H (fun v H' => v = .int .i64 0 ∧ Stt [w] H H' [⟨some w, true, zW sb db wv (ops + 1) stop⟩]) := by
 refine acallsW Tryz.func154 f154_ok (Nat.le_of_ble_eq_true rfl) fun hw => ?_
 have st : Stt [w] H H [] := Stt.start hw
 replace st := st0
 unfold f154c
 refine zw ?_
 refine zm ?_
 refine zw ?_
 iterate 3 refine zm ?_
 refine zl st 0 ?_
 refine zf ?_
 refine zw ?_
 iterate 3 refine zm ?_
 refine zl st 0 ?_
 refine zm ?_
 refine zw ?_
 iterate 3 refine zm ?_
 refine zl st 0 ?_
 refine aBinV (.int .i64 (ops + 1)) rfl rfl (addI rfl (by omega)) ?_
 iterate 2 refine zm ?_
 refine zx st 0 fun H1 st => ?_
 refine zw ?_
 iterate 4 refine zm ?_
 refine zl st 0 ?_
 refine aBinV (.bool false) rfl rfl (eqF hs) ?_
 refine zf ?_
 refine zw ?_
 iterate 3 refine zm ?_
 refine zl st 0 ?_
 refine zm ?_
 refine aMapNil rfl rfl rfl ?_
 refine zf ?_
 refine zw ?_
 refine zm ?_
 refine sE ?_
 refine ⟨_, out1 zr, ?_⟩
 exact ⟨rfl, st.sel [0] (by decide)⟩
theorem apply_w {H : Hp} {sb pb : Nat} {ob : Option Nat} {c : List (Value × Value)} {nm : ByteArray} {to : Value} {off : Nat} {p old : List Int} {u : Option Value} (st0 : Stt [sb] H H [⟨some sb, true, ⟨true, .mp c, []⟩⟩, ⟨some pb, false, ⟨true, 5, p.map (Value.int .u8)⟩⟩, ⟨ob, false, ⟨true, 5, old.map (Value.int .u8)⟩⟩]) (hf : Found c nm u) (hu : u.getD (.slice none 0 0) = accV ob old.length 1) (hto : NfV [to] [to]) (hp : 0 < p.length) (ho : old.length ≤ 1048576) (hl : off + p.length ≤ 1048576) :
  ACalls Tryz.prog 30 [.map (some sb), .agg #[.int .u8 119, .string nm, to, .int .i64 (off : Int), .slice (some ⟨pb, 0, none⟩) p.length 1], .int .i64 (p.length : Int)] H (fun v H' => ∃ b', v = .tuple #[] ∧ Stt [sb] H H' [⟨some sb, true, ⟨true, .mp (mset c nm (.slice (some ⟨b', 0, none⟩) (wr old off p).length 1)), []⟩⟩, ⟨some b', true, ⟨true, 5, (wr old off p).map (Value.int .u8)⟩⟩]) := by
 refine acallsW Tryz.func30 f30_ok (Nat.le_of_ble_eq_true rfl) fun hw => ?_
 have st : Stt [sb] H H [] := Stt.start hw
 replace st := st0
 unfold f30c
 refine zw ?_
 refine aBoxN st rfl rfl (by repeat constructor) rfl fun b4 H1 st => ?_
 refine zw ?_
 refine zm ?_
 refine zl st 0 ?_
 refine zw ?_
 refine zb (.bool true) ?_
 refine zm ?_
 show AW _ (.cond _ _ _) _ _ _
 refine cT rfl ?_
 refine zw ?_
 refine zm ?_
 refine zl st 0 ?_
 iterate 2 refine zm ?_
 refine zl st 0 ?_
 refine zm ?_
 refine aMinV (r := (p.length : Int)) rfl rfl (by rw [if_neg (by omega)]) ?_
 refine aCutH (st.rowAll 2 rfl (by simp)) rfl rfl (by omega) fun v21 s21 => ?_
 replace s21 : ∀ H1, Sl H1 1 p.length (p.map (Value.int .u8)) (.slice (some ⟨pb, 0, none⟩) p.length 1) → Sl H1 1 p.length (p.map (Value.int .u8)) v21 := fun H1 h1 => by have h9 := s21 H1 h1; rwa [Int.toNat_natCast, List.take_length] at h9
 refine aMovV v21 rfl ?_
 refine zw ?_
 iterate 2 refine zm ?_
 refine zl st 0 ?_
 refine aMapGetF st 1 rfl rfl rfl hf (hu) ?_
 have st := st.nil 5
 have hnil : (Value.slice none 0 0) = accV none 0 1 := rfl
 refine aApp st 0 (ob := none) (n := 0) rfl rfl rfl (by decide) (rfl) (st.rowAcc 4 rfl (by decide) (by simp)).src (by simp) (by omega) (by omega) fun b26 H2 hp26 st => ?_
 refine aMovA rfl ?_
 refine sE ?_
 show AW _ (.loop _) _ _ _
 have st := st.recell 0 rfl (cs' := (old ++ List.replicate 0 0).map (Value.int .u8)) (by simp)
 refine AW_loopN (fun m t1 H1 => ∃ (i : Nat) (ob1 : Option Nat), m = off + p.length - old.length - i ∧ (i ≤ off + p.length - old.length) ∧ t1 7 = accV ob1 (old.length + i) 1 ∧ Stt [sb] H H1 [⟨ob1, true, ⟨true, 5, List.map (Value.int .u8) (old ++ List.replicate i 0)⟩⟩, ⟨some b4, true, ⟨true, 121, [.int .u8 119, .string nm, to, .int .i64 (off : Int), .slice (some ⟨pb, 0, none⟩) p.length 1]⟩⟩, ⟨some sb, true, ⟨true, .mp c, []⟩⟩, ⟨some pb, false, ⟨true, 5, p.map (Value.int .u8)⟩⟩]) _ ⟨0, _, rfl, Nat.zero_le _, congrArg (fun n => accV _ n 1) (by omega), (st.sel [0, 1, 2, 3] (by decide))⟩ [7, 27, 28, 29, 30, 31, 32, 33, 34, 35, 36, 37] (by decide) ?_
 rintro m t1 H1 hk hI
 obtain ⟨i, ob1, rfl, hi, ht7, st⟩ := hI
 obtain ⟨u, rfl⟩ : ∃ u, t1 = (upd (mix [7, 27, 28, 29, 30, 31, 32, 33, 34, 35, 36, 37] _ u) (some 7) _) := ⟨t1, by rw [← hk, upd_self ht7]⟩
 clear hk ht7
 refine zw ?_
 refine aMovA rfl ?_
 refine aLen (st.rowAcc 0 rfl (by decide) (by simp)) rfl ?_
 refine zm ?_
 refine zl st 1 ?_
 refine aMovV v21 rfl ?_
 refine aLen (s21 _ (st.rowAll 3 rfl (by simp))) rfl ?_
 refine aBinV (.int .i64 ((off + p.length : Nat) : Int)) rfl rfl (addI (by omega) (by omega)) ?_
 refine zm ?_
 show AW _ (.cond _ _ _) _ _ _
 refine cC' rfl (fun h3 => ?_) (fun h3 => ?_)
 ·have hlt : old.length + i < off + p.length := by have := of_decide_eq_true h3; omega
  refine zw ?_
  refine aMovA rfl ?_
  refine aLit st rfl (by repeat constructor) fun b36 H4 st => ?_
  refine aApp st 1 (ob := ob1) rfl rfl rfl (by decide) (by simp) (st.rowAll 0 rfl (by first | rfl | (simp [beB_len, *]; done) | (simp [beB_len, *]; omega))).src (rfl) (by omega) (by omega) fun b37 H5 hp37 st => ?_
  refine aMovA rfl ?_
  refine sE ?_
  have st := st.recell 1 rfl (cs' := (old ++ List.replicate (i + 1) 0).map (Value.int .u8)) (by rw [List.replicate_succ', ← List.append_assoc]; simp)
  exact ⟨_, by omega, (i + 1), b37, rfl, by omega, rfl, (st.sel [1, 2, 3, 4] (by decide))⟩
 ·have hge : i = off + p.length - old.length := by have := of_decide_eq_false h3; omega
  subst hge
  obtain ⟨b7, rfl⟩ := st.isSome 0 rfl (fun h => by have := congrArg List.length h; simp only [List.length_map, List.length_append, List.length_replicate, List.length_nil] at this; omega)
  refine zw ?_
  iterate 2 refine zm ?_
  refine zl st 1 ?_
  refine aCutP (n := old.length + (off + p.length - old.length)) rfl rfl (by omega) fun c41 => ?_
  refine aMovV v21 rfl ?_
  refine aCopy st 0 rfl rfl (s21 _ (st.rowAll 3 rfl (by simp))).src (by simp) (by omega) (by omega) (by rw [Nat.min_eq_left (show p.length ≤ old.length + (off + p.length - old.length) - off by omega)]; simp; omega) (.any _) fun H6 st => ?_
  have st := st.recell 0 rfl (cs' := (wr old off p).map (Value.int .u8)) (by rw [Nat.min_eq_left (show p.length ≤ old.length + (off + p.length - old.length) - off by omega)]; simp only [wr, List.map_append, List.map_take, List.map_drop, Nat.mul_one]; rw [List.take_of_length_le (l := p.map (Value.int .u8)) (by simp)])
  refine zw ?_
  iterate 2 refine zm ?_
  refine zl st 1 ?_
  refine zm ?_
  refine aMapSetF st 2 rfl rfl rfl rfl rfl hf fun H7 st => ?_
  refine sE ?_
  refine ⟨_, rfl , ?_⟩
  exact ⟨b7, rfl, by rw [wr_len]; exact st.sel [2, 0] (by decide)⟩
theorem do_w {H : Hp} {pb w sb db nw : Nat} {wb ob : Option Nat} {c : List (Value × Value)} {cs : List Value} {nm : ByteArray} {off : Nat} {p old : List Int} {u : Option Value} {ops stop : Int} (st0 : Stt ([w] ++ [sb] ++ wb.toList) H H [⟨some w, true, zW sb db (accV wb nw 5) ops stop⟩, ⟨some sb, true, ⟨true, .mp c, []⟩⟩, ⟨wb, true, ⟨true, 121, cs⟩⟩, ⟨ob, false, ⟨true, 5, old.map (Value.int .u8)⟩⟩, ⟨some pb, false, ⟨true, 5, p.map (Value.int .u8)⟩⟩]) (hcs : cs.length = nw * 5) (hnw : nw ≤ 1000000) (hf : Found c nm u) (hu : u.getD (.slice none 0 0) = accV ob old.length 1) (hp : 0 < p.length) (ho2 : old.length ≤ 1048576) (hl : off + p.length ≤ 1048576) (ho : 0 ≤ ops ∧ ops ≤ 1000000000) (hs : ops ≠ stop) :
  ACalls Tryz.prog 178 [zP w, .agg #[.int .u8 119, .string nm, .string ⟨#[]⟩, .int .i64 (off : Int), .slice (some ⟨pb, 0, none⟩) p.length 1]] H (fun v H' => ∃ wb1 b1, v = .int .i64 0 ∧ Stt ([w] ++ [sb] ++ wb.toList) H H' [⟨some w, true, zW sb db (.slice (some ⟨wb1, 0, none⟩) (nw + 1) 5) (ops + 1) stop⟩, ⟨some sb, true, ⟨true, .mp (mset c nm (.slice (some ⟨b1, 0, none⟩) (wr old off p).length 1)), []⟩⟩, ⟨some wb1, true, ⟨true, 121, cs ++ [.int .u8 119, .string nm, .string ⟨#[]⟩, .int .i64 (off : Int), .slice (some ⟨pb, 0, none⟩) p.length 1]⟩⟩, ⟨some b1, true, ⟨true, 5, (wr old off p).map (Value.int .u8)⟩⟩]) := by
 refine acallsW Tryz.func178 f178_ok (Nat.le_of_ble_eq_true rfl) fun hw => ?_
 have st : Stt ([w] ++ [sb] ++ wb.toList) H H [] := Stt.start hw
 replace st := st0
 unfold f178c
 refine zw ?_
 refine aBoxN st rfl rfl (by repeat constructor) rfl fun b3 H1 st => ?_
 refine zm ?_
 refine zw ?_
 refine zm ?_
 refine aC (call_ok (zN st [1] []) ho hs) fun v7 H2 ⟨hv, st1⟩ => ?_
 subst hv
 replace st := st.callT (ob := some w) 1 rfl st1 rfl
 clear st1
 refine zm ?_
 refine zw ?_
 refine zm ?_
 refine zb (.bool false) ?_
 refine zf ?_
 show AWp _ _ _ _ _
 iterate 3 refine zm ?_
 refine zl st 0 ?_
 refine aLdA st 1 rfl rfl (by first | decide | simp [*]) (by repeat constructor) ?_
 refine zm ?_
 refine zl st 1 ?_
 refine zm ?_
 refine ⟨?_, trivial⟩
 refine aC (apply_w (zN st [2] [5, 4]) hf hu (by repeat constructor) hp ho2 hl) fun v19 H3 ⟨bf, hv, st1⟩ => ?_
 subst hv
 replace st := st.callT (ob := some sb) 2 rfl st1 rfl
 clear st1
 refine ⟨⟨zh st 3, trivial⟩, ?_⟩
 refine pE ?_
 show AWp _ _ _ _ _
 iterate 4 refine zm ?_
 refine aLdQ st 2 rfl rfl rfl rfl ?_
 refine aLdA st 3 rfl rfl (by first | decide | simp [*]) (by repeat constructor) ?_
 refine ⟨?_, trivial⟩
 refine aLit st rfl (by repeat constructor) fun b26 H4 st => ?_
 refine ⟨⟨zh st 3, trivial⟩, ?_⟩
 refine ⟨?_, trivial⟩
 refine aAppP st 5 (ob := wb) rfl rfl rfl (by decide) (hcs) (st.rowAll 0 rfl (by first | rfl | (simp [beB_len, *]; done) | (simp [beB_len, *]; omega))).src (rfl) (by omega) (by omega) (by omega) (.any _) fun b27 H5 st => ?_
 refine ⟨⟨(h_LdA st 4 rfl rfl (by first | decide | simp [*]) (by repeat constructor)), trivial⟩, ?_⟩
 iterate 2 refine zm ?_
 refine ⟨?_, trivial⟩
 refine zx st 3 fun H6 st => ?_
 refine ⟨trivial, ?_⟩
 refine zw ?_
 refine zm ?_
 refine sE ?_
 refine ⟨_, out1 zr, ?_⟩
 exact ⟨b27, bf, rfl, st.sel [3, 1, 5, 2] (by decide)⟩
theorem write_w {H : Hp} {xb w sb db nw : Nat} {wb ob : Option Nat} {c : List (Value × Value)} {cs : List Value} {nm : ByteArray} {off : Nat} {p old : List Int} {u : Option Value} {ops stop : Int} (st0 : Stt ([w] ++ [sb] ++ wb.toList) H H [⟨some w, true, zW sb db (accV wb nw 5) ops stop⟩, ⟨some sb, true, ⟨true, .mp c, []⟩⟩, ⟨wb, true, ⟨true, 121, cs⟩⟩, ⟨ob, false, ⟨true, 5, old.map (Value.int .u8)⟩⟩, ⟨some xb, false, ⟨true, 5, p.map (Value.int .u8)⟩⟩]) (hn1 : 1 ≤ nm.size) (hn2 : nm.size ≤ 32) (hcs : cs.length = nw * 5) (hnw : nw ≤ 1000000) (hf : Found c nm u) (hu : u.getD (.slice none 0 0) = accV ob old.length 1) (hp : 0 < p.length) (ho2 : old.length ≤ 1048576) (hl : off + p.length ≤ 1048576) (ho : 0 ≤ ops ∧ ops ≤ 1000000000) (hs : ops ≠ stop) :
  ACalls Tryz.prog 157 [zP w, .string nm, .int .i64 (off : Int), .slice (some ⟨xb, 0, none⟩) p.length 1] H (fun v H' => ∃ wb1 b1 pb, v = .int .i64 0 ∧ Stt ([w] ++ [sb] ++ wb.toList) H H' [⟨some w, true, zW sb db (.slice (some ⟨wb1, 0, none⟩) (nw + 1) 5) (ops + 1) stop⟩, ⟨some sb, true, ⟨true, .mp (mset c nm (.slice (some ⟨b1, 0, none⟩) (wr old off p).length 1)), []⟩⟩, ⟨some wb1, true, ⟨true, 121, cs ++ [.int .u8 119, .string nm, .string ⟨#[]⟩, .int .i64 (off : Int), .slice (some ⟨pb, 0, none⟩) p.length 1]⟩⟩, ⟨some b1, true, ⟨true, 5, (wr old off p).map (Value.int .u8)⟩⟩, ⟨some pb, true, ⟨true, 5, p.map (Value.int .u8)⟩⟩]) := by
 refine acallsW Tryz.func157 f157_ok (Nat.le_of_ble_eq_true rfl) fun hw => ?_
 have st : Stt ([w] ++ [sb] ++ wb.toList) H H [] := Stt.start hw
 replace st := st0
 unfold f157c
 refine zw ?_
 refine zm ?_
 refine zw ?_
 refine zm ?_
 refine aC (name_call hn1 hn2) fun v11 H1 ⟨hv, st1⟩ => ?_
 subst hv
 replace st := st.call st1 rfl
 clear st1
 iterate 2 refine zm ?_
 refine zg ?_
 refine zm ?_
 refine zg ?_
 refine aBinV (.bool false) rfl rfl (ltF (by omega)) ?_
 iterate 2 refine zm ?_
 refine zf ?_
 refine zw ?_
 refine zm ?_
 refine aBinV (.bool false) rfl rfl (gtF (by omega)) ?_
 refine zm ?_
 refine zg ?_
 refine zm ?_
 refine zg ?_
 refine zm ?_
 refine zg ?_
 refine zm ?_
 refine zg ?_
 refine aBinV (.int .i64 (1048576 - off)) rfl rfl (subI (by omega) (by omega)) ?_
 refine zg ?_
 refine aBinV (.bool false) rfl rfl (gtF (by omega)) ?_
 iterate 2 refine zm ?_
 refine zf ?_
 refine zw ?_
 refine zm ?_
 refine zb (.bool false) ?_
 refine zm ?_
 refine zf ?_
 refine zw ?_
 iterate 4 refine zm ?_
 have st := st.nil 5
 have hnil : (Value.slice none 0 0) = accV none 0 1 := rfl
 refine aAppP st 0 (ob := none) (n := 0) rfl rfl rfl (by decide) (rfl) (st.rowAll 5 rfl (by simp)).src (by simp) (by omega) (by omega) (by omega) (.any _) fun b34 H2 st => ?_
 have st := st.recell 0 rfl (cs' := p.map (Value.int .u8)) (by simp)
 rw [show 0 + p.length = p.length from Nat.zero_add _]
 refine aBld rfl (by repeat constructor) ?_
 refine aC (do_w (zN st [1, 2, 3] [4, 0]) hcs hnw hf hu hp ho2 hl ho hs) fun v36 H3 ⟨wb1, b1, hv, st1⟩ => ?_
 subst hv
 replace st := st.call3 (o1 := some w) (o2 := some sb) (o3 := wb) 1 1 1 rfl rfl rfl st1 rfl
 clear st1
 refine zm ?_
 refine sE ?_
 refine ⟨_, out1 zr, ?_⟩
 exact ⟨wb1, b1, b34, rfl, st.sel [0, 1, 2, 3, 4] (by decide)⟩
theorem read_n {H : Hp} {w sb db off n : Nat} {wv : Value} {ob : Option Nat} {c : List (Value × Value)} {nm : ByteArray} {old : List Int} {ops stop : Int} (st0 : Stt [w] H H [⟨some w, true, zW sb db wv ops stop⟩, ⟨some sb, false, ⟨true, .mp c, []⟩⟩]) (hn1 : 1 ≤ nm.size) (hn2 : nm.size ≤ 32) (hf : Found c nm none) (hoff2 : off ≤ 1048576) (hn2' : n ≤ 1048576)  (ho : 0 ≤ ops ∧ ops ≤ 1000000000) (hs : ops ≠ stop) :
  ACalls Tryz.prog 120 [zP w, .string nm, .int .i64 (off : Int), .int .i64 (n : Int)] H (fun v H' => v = .tuple #[.slice none 0 0, .int .i64 8] ∧ Stt [w] H H' [⟨some w, true, zW sb db wv (ops + 1) stop⟩]) := by
 refine acallsW Tryz.func120 f120_ok (Nat.le_of_ble_eq_true rfl) fun hw => ?_
 have st : Stt [w] H H [] := Stt.start hw
 replace st := st0
 unfold f120c
 refine zw ?_
 iterate 2 refine zm ?_
 refine zw ?_
 refine zm ?_
 refine aC (name_call hn1 hn2) fun v14 H1 ⟨hv, st1⟩ => ?_
 subst hv
 replace st := st.call st1 rfl
 clear st1
 iterate 2 refine zm ?_
 refine zg ?_
 refine zm ?_
 refine zg ?_
 refine aBinV (.bool false) rfl rfl (ltF (by omega)) ?_
 iterate 2 refine zm ?_
 refine zg ?_
 refine zm ?_
 refine zg ?_
 refine aBinV (.bool false) rfl rfl (ltF (by omega)) ?_
 refine zm ?_
 refine zf ?_
 refine zw ?_
 refine zm ?_
 refine zb (.bool false) ?_
 refine zf ?_
 refine zw ?_
 iterate 3 refine zm ?_
 refine zl st 0 ?_
 refine zm ?_
 refine aMapGetF st 1 rfl rfl rfl hf (rfl) ?_
 iterate 5 refine zm ?_
 refine zw ?_
 refine zm ?_
 refine aC (call_ok (zN st [0] []) ho hs) fun v36 H2 ⟨hv, st1⟩ => ?_
 subst hv
 replace st := st.callT (ob := some w) 0 rfl st1 rfl
 clear st1
 refine zm ?_
 refine zw ?_
 refine zm ?_
 refine aBinV (.bool false) rfl rfl (neF rfl) ?_
 refine zm ?_
 refine zf ?_
 refine zw ?_
 iterate 3 refine zm ?_
 show AW _ (.cond _ _ _) _ _ _
 refine cT rfl ?_
 refine zw ?_
 iterate 2 refine zm ?_
 refine sE ?_
 refine ⟨_, out2 zr zr ⟨rfl, rfl⟩, ?_⟩
 exact ⟨rfl, st.sel [0] (by decide)⟩
theorem read_p {H : Hp} {w sb db off n : Nat} {wv : Value} {ob : Option Nat} {c : List (Value × Value)} {nm : ByteArray} {old : List Int} {ops stop : Int} (st0 : Stt [w] H H [⟨some w, true, zW sb db wv ops stop⟩, ⟨some sb, false, ⟨true, .mp c, []⟩⟩, ⟨ob, false, ⟨true, 5, old.map (Value.int .u8)⟩⟩]) (hn1 : 1 ≤ nm.size) (hn2 : nm.size ≤ 32) (hf : Found c nm (some (accV ob old.length 1))) (hoff2 : off ≤ 1048576) (hn2' : n ≤ 1048576) (ho2 : old.length ≤ 1048576) (hoff : old.length ≤ off) (ho : 0 ≤ ops ∧ ops ≤ 1000000000) (hs : ops ≠ stop) :
  ACalls Tryz.prog 120 [zP w, .string nm, .int .i64 (off : Int), .int .i64 (n : Int)] H (fun v H' => v = .tuple #[.slice none 0 0, .int .i64 0] ∧ Stt [w] H H' [⟨some w, true, zW sb db wv (ops + 1) stop⟩]) := by
 refine acallsW Tryz.func120 f120_ok (Nat.le_of_ble_eq_true rfl) fun hw => ?_
 have st : Stt [w] H H [] := Stt.start hw
 replace st := st0
 unfold f120c
 refine zw ?_
 iterate 2 refine zm ?_
 refine zw ?_
 refine zm ?_
 refine aC (name_call hn1 hn2) fun v14 H1 ⟨hv, st1⟩ => ?_
 subst hv
 replace st := st.call st1 rfl
 clear st1
 iterate 2 refine zm ?_
 refine zg ?_
 refine zm ?_
 refine zg ?_
 refine aBinV (.bool false) rfl rfl (ltF (by omega)) ?_
 iterate 2 refine zm ?_
 refine zg ?_
 refine zm ?_
 refine zg ?_
 refine aBinV (.bool false) rfl rfl (ltF (by omega)) ?_
 refine zm ?_
 refine zf ?_
 refine zw ?_
 refine zm ?_
 refine zb (.bool false) ?_
 refine zf ?_
 refine zw ?_
 iterate 3 refine zm ?_
 refine zl st 0 ?_
 refine zm ?_
 refine aMapGetF st 1 rfl rfl rfl hf (rfl) ?_
 refine zm ?_
 refine aExtA rfl rfl ?_
 refine zm ?_
 refine aMovA rfl ?_
 refine zm ?_
 refine zw ?_
 refine zm ?_
 refine aC (call_ok (zN st [0] []) ho hs) fun v36 H2 ⟨hv, st1⟩ => ?_
 subst hv
 replace st := st.callT (ob := some w) 0 rfl st1 rfl
 clear st1
 refine zm ?_
 refine zw ?_
 refine zm ?_
 refine aBinV (.bool false) rfl rfl (neF rfl) ?_
 refine zm ?_
 refine zf ?_
 refine zw ?_
 iterate 3 refine zm ?_
 refine zf ?_
 refine zw ?_
 refine zm ?_
 refine aMovA rfl ?_
 refine aLen (st.rowAcc 2 rfl (by decide) (by simp)) rfl ?_
 refine aBinV (.bool true) rfl rfl (geT (by omega)) ?_
 refine zm ?_
 show AW _ (.cond _ _ _) _ _ _
 refine cT rfl ?_
 refine zw ?_
 iterate 2 refine zm ?_
 refine sE ?_
 refine ⟨_, out2 zr zr ⟨rfl, rfl⟩, ?_⟩
 exact ⟨rfl, st.sel [0] (by decide)⟩
theorem read_s {H : Hp} {w sb db off n : Nat} {wv : Value} {ob : Option Nat} {c : List (Value × Value)} {nm : ByteArray} {old : List Int} {ops stop : Int} (st0 : Stt [w] H H [⟨some w, true, zW sb db wv ops stop⟩, ⟨some sb, false, ⟨true, .mp c, []⟩⟩, ⟨ob, false, ⟨true, 5, old.map (Value.int .u8)⟩⟩]) (hn1 : 1 ≤ nm.size) (hn2 : nm.size ≤ 32) (hf : Found c nm (some (accV ob old.length 1))) (hoff2 : off ≤ 1048576) (hn2' : n ≤ 1048576) (ho2 : old.length ≤ 1048576) (hoff : off + n ≤ old.length) (hn0 : 0 < n) (ho : 0 ≤ ops ∧ ops ≤ 1000000000) (hs : ops ≠ stop) :
  ACalls Tryz.prog 120 [zP w, .string nm, .int .i64 (off : Int), .int .i64 (n : Int)] H (fun v H' => ∃ r, v = .tuple #[.slice (some ⟨r, 0, none⟩) n 1, .int .i64 0] ∧ Stt [w] H H' [⟨some w, true, zW sb db wv (ops + 1) stop⟩, ⟨some r, true, ⟨true, 5, ((old.drop off).take n).map (Value.int .u8)⟩⟩]) := by
 refine acallsW Tryz.func120 f120_ok (Nat.le_of_ble_eq_true rfl) fun hw => ?_
 have st : Stt [w] H H [] := Stt.start hw
 replace st := st0
 unfold f120c
 refine zw ?_
 iterate 2 refine zm ?_
 refine zw ?_
 refine zm ?_
 refine aC (name_call hn1 hn2) fun v14 H1 ⟨hv, st1⟩ => ?_
 subst hv
 replace st := st.call st1 rfl
 clear st1
 iterate 2 refine zm ?_
 refine zg ?_
 refine zm ?_
 refine zg ?_
 refine aBinV (.bool false) rfl rfl (ltF (by omega)) ?_
 iterate 2 refine zm ?_
 refine zg ?_
 refine zm ?_
 refine zg ?_
 refine aBinV (.bool false) rfl rfl (ltF (by omega)) ?_
 refine zm ?_
 refine zf ?_
 refine zw ?_
 refine zm ?_
 refine zb (.bool false) ?_
 refine zf ?_
 refine zw ?_
 iterate 3 refine zm ?_
 refine zl st 0 ?_
 refine zm ?_
 refine aMapGetF st 1 rfl rfl rfl hf (rfl) ?_
 refine zm ?_
 refine aExtA rfl rfl ?_
 refine zm ?_
 refine aMovA rfl ?_
 refine zm ?_
 refine zw ?_
 refine zm ?_
 refine aC (call_ok (zN st [0] []) ho hs) fun v36 H2 ⟨hv, st1⟩ => ?_
 subst hv
 replace st := st.callT (ob := some w) 0 rfl st1 rfl
 clear st1
 refine zm ?_
 refine zw ?_
 refine zm ?_
 refine aBinV (.bool false) rfl rfl (neF rfl) ?_
 refine zm ?_
 refine zf ?_
 refine zw ?_
 iterate 3 refine zm ?_
 refine zf ?_
 refine zw ?_
 refine zm ?_
 refine aMovA rfl ?_
 refine aLen (st.rowAcc 2 rfl (by decide) (by simp)) rfl ?_
 refine aBinV (.bool false) rfl rfl (geF (by omega)) ?_
 refine zm ?_
 refine zf ?_
 refine zw ?_
 refine aMovA rfl ?_
 iterate 3 refine zm ?_
 refine aMovA rfl ?_
 refine aLen (st.rowAcc 2 rfl (by decide) (by simp)) rfl ?_
 refine zm ?_
 refine aBinV (.int .i64 ((old.length - off : Nat) : Int)) rfl rfl (subI (by omega) (by omega)) ?_
 refine aMinV (r := (n : Int)) rfl rfl (by rw [if_neg (by omega)]) ?_
 refine aBinV (.int .i64 ((off + n : Nat) : Int)) rfl rfl (addI (by omega) (by omega)) ?_
 refine aCutLH (st.rowAcc 2 rfl (by decide) (by simp)) rfl rfl rfl (by omega) fun v59 s59 => ?_
 replace s59 : ∀ H1, Sl H1 1 old.length (old.map (Value.int .u8)) (accV ob old.length 1) → Sl H1 1 n (((old.drop off).take n).map (Value.int .u8)) v59 := fun H1 h1 => by have h9 := s59 H1 h1; rwa [Int.toNat_natCast, Int.toNat_natCast, Nat.add_sub_cancel_left] at h9
 have st := st.nil 5
 have hnil : (Value.slice none 0 0) = accV none 0 1 := rfl
 refine aAppP st 0 (ob := none) (n := 0) rfl rfl rfl (by decide) (rfl) (s59 _ (st.rowAcc 3 rfl (by decide) (by simp))).src (by simp; omega) (by omega) (by omega) (by omega) (.any _) fun b60 H3 st => ?_
 iterate 2 refine zm ?_
 refine sE ?_
 refine ⟨_, out2 zr zr ⟨rfl, rfl⟩, ?_⟩
 have st := st.recell 0 rfl (cs' := ((old.drop off).take n).map (Value.int .u8)) (by simp)
 exact ⟨b60, by rw [Nat.zero_add], st.sel [1, 0] (by decide)⟩
end Go.Proofs.YtjmjkdelkaflmaaGreatDoor.Abs
