/- Reservations: types, keys. -/
import Derived.Test.YtihkghfmihdicaaP5
import Derived.Test.YtihkghfmihdicaaC1
set_option linter.unusedVariables false
set_option linter.unusedSimpArgs false
set_option maxRecDepth 100000
namespace Go.Proofs.Ytihkghfmihdicaa.Abs
open Go Go.RowKit

structure PT where
  regs : List (Int × Int)
  gen : Int
  kind : Int
  holder : Int
  aptpl : Bool
structure POut where
  sv : Int
  ty : Int
  key : Int
  act : Int
  ap : Bool
def regE (r : Int × Int) : List Value := [.int .i64 r.1, .int .u64 r.2]
def evE (r : Int × Int) : List Value := [.int .i64 r.1, .int .u16 r.2]
theorem regE_len (r : Int × Int) : (regE r).length = 2 := rfl
theorem evE_len (r : Int × Int) : (evE r).length = 2 := rfl
def keyM (l : List (Int × Int)) (n : Int) : Int × Bool := match l.find? (·.1 == n) with
  | some r => (r.2, true)
  | none => (0, false)
def allB (k : Int) : Bool := k == 7 || k == 8
def typeB (k : Int) : Bool := k == 1 || k == 3 || (decide (k ≥ 5) && decide (k ≤ 8))
def holdsM (P : PT) (n : Int) : Bool := if P.kind = 0 then false else if allB P.kind = true then (keyM P.regs n).2 else P.holder == n
def freeE (P : PT) (n : Int) : List (Int × Int) := if P.kind ≥ 5 then (P.regs.filter (fun r => r.1 != n)).map fun r => (r.1, 10756) else []
def freeP (P : PT) : PT := { P with kind := 0, holder := -1 }
def setM (l : List (Int × Int)) (n k : Int) : List (Int × Int) := (l.filter (fun r => decide (r.1 < n)) ++ if k = 0 then [] else [(n, k)]) ++ l.filter (fun r => decide (r.1 > n))
def inc32 (g : Int) : Int := IntKind.u32.wrap (g + 1)
/-- Is the reservation over, as a nexus registers no more? -/
def frM (P : PT) (n : Int) : Bool := (allB P.kind && P.regs.length == 1) || ((P.kind != 0 && P.holder == n) && !allB P.kind)
def registerP (P : PT) (n : Int) (o : POut) (known : Bool) : PT :=
  let Q := if o.act = 0 then if known = true then if frM P n = true then freeP { P with regs := setM P.regs n 0 } else { P with regs := setM P.regs n 0 } else P else { P with regs := setM P.regs n o.act }
  { Q with aptpl := o.ap, gen := inc32 P.gen }
def registerE (P : PT) (n : Int) (o : POut) (known : Bool) : List (Int × Int) :=
  if o.act = 0 ∧ known = true ∧ frM P n = true then freeE { P with regs := setM P.regs n 0 } n else []
def clearE (P : PT) (n : Int) : List (Int × Int) := (P.regs.filter (fun r => r.1 != n)).map fun r => (r.1, 10755)
def clearP (P : PT) : PT := { P with regs := [], kind := 0, holder := -1, gen := inc32 P.gen }
def heldB (P : PT) (o : POut) : Bool := P.regs.any fun r => P.kind != 0 && !allB P.kind && r.1 == P.holder && r.2 == o.act
def pallB (P : PT) (o : POut) : Bool := allB P.kind && o.act == 0
def stays (P : PT) (n : Int) (o : POut) (r : Int × Int) : Bool := r.1 == n || (r.2 != o.act && !pallB P o)
def leftM (P : PT) (n : Int) (o : POut) : List (Int × Int) := P.regs.filter (stays P n o)
def goneE (P : PT) (n : Int) (o : POut) : List (Int × Int) := (P.regs.filter (fun r => !stays P n o r)).map fun r => (r.1, 10757)
def relE (P : PT) (n : Int) (o : POut) : List (Int × Int) := if (heldB P o || pallB P o) = true ∧ P.kind ≥ 5 ∧ P.kind ≠ o.ty then ((leftM P n o).filter (fun r => r.1 != n)).map (fun r => (r.1, 10756)) else []
/-- What a service brings: the status, the code, who is told what, the table. -/
structure PR where
  st : Int
  code : Int
  ev : List (Int × Int)
  tab : PT
def preemptM (P : PT) (n : Int) (o : POut) : PR :=
  if o.act = 0 ∧ pallB P o = false then ⟨2, 9728, [], P⟩
  else if (heldB P o || pallB P o) = true ∧ typeB o.ty = false then ⟨2, 9216, [], P⟩
  else if (P.regs.any fun r => r.2 == o.act) = false ∧ pallB P o = false then ⟨24, 0, [], P⟩
  else ⟨0, 0, goneE P n o ++ relE P n o, { P with regs := leftM P n o, kind := if (heldB P o || pallB P o) = true then o.ty else P.kind, holder := if (heldB P o || pallB P o) = true then n else P.holder, gen := inc32 P.gen }⟩
def reserveM (P : PT) (n : Int) (o : POut) : PR :=
  if typeB o.ty = false then ⟨2, 9216, [], P⟩
  else if P.kind = 0 then ⟨0, 0, [], { P with kind := o.ty, holder := n }⟩
  else if holdsM P n = true ∧ P.kind = o.ty then ⟨0, 0, [], P⟩
  else ⟨24, 0, [], P⟩
def releaseM (P : PT) (n : Int) (o : POut) : PR :=
  if holdsM P n = false then ⟨0, 0, [], P⟩
  else if P.kind ≠ o.ty then ⟨2, 9216, [], P⟩
  else ⟨0, 0, freeE P n, freeP P⟩
def doM (P : PT) (n : Int) (o : POut) : PR :=
  if n < 0 ∨ n ≥ 8 ∨ o.sv > 6 then ⟨2, 9216, [], P⟩
  else if o.sv = 6 then ⟨0, 0, registerE P n o (keyM P.regs n).2, registerP P n o (keyM P.regs n).2⟩
  else if o.sv = 0 then if o.key ≠ (keyM P.regs n).1 then ⟨24, 0, [], P⟩ else ⟨0, 0, registerE P n o (keyM P.regs n).2, registerP P n o (keyM P.regs n).2⟩
  else if (keyM P.regs n).2 = false ∨ o.key ≠ (keyM P.regs n).1 then ⟨24, 0, [], P⟩
  else if o.sv = 1 then reserveM P n o
  else if o.sv = 2 then releaseM P n o
  else if o.sv = 3 then ⟨0, 0, clearE P n, clearP P⟩
  else preemptM P n o
theorem keyM_at {l : List (Int × Int)} {n : Int} {j : Nat} (h : j < l.length) (hno : ∀ i, i < j → (l.getD i (0, 0)).1 ≠ n) (he : (l.getD j (0, 0)).1 = n) : keyM l n = ((l.getD j (0, 0)).2, true) := by
  have hj : l.getD j (0, 0) = l[j] := by simp [List.getD, List.getElem?_eq_getElem h]
  have : l.find? (·.1 == n) = some l[j] := by
    rw [List.find?_eq_some_iff_getElem]
    refine ⟨by rw [← hj]; simpa using he, j, h, rfl, fun i hi => ?_⟩
    have h1 := hno i hi
    rw [show l.getD i (0, 0) = l[i] by simp [List.getD, List.getElem?_eq_getElem (Nat.lt_trans hi h)]] at h1
    simpa using h1
  unfold keyM
  rw [this, hj]
theorem keyM_no {l : List (Int × Int)} {n : Int} (hno : ∀ i, i < l.length → (l.getD i (0, 0)).1 ≠ n) : keyM l n = (0, false) := by
  have : l.find? (·.1 == n) = none := by
    rw [List.find?_eq_none]
    intro r hr
    obtain ⟨i, hi, rfl⟩ := List.getElem_of_mem hr
    have h1 := hno i hi
    rw [show l.getD i (0, 0) = l[i] by simp [List.getD, List.getElem?_eq_getElem hi]] at h1
    simpa using h1
  unfold keyM
  rw [this]
theorem setM_len (l : List (Int × Int)) (n k : Int) : (setM l n k).length ≤ 2 * l.length + 1 := by
  have h1 : (l.filter (fun r => decide (r.1 < n))).length ≤ l.length := List.length_filter_le _ _
  have h2 : (l.filter (fun r => decide (r.1 > n))).length ≤ l.length := List.length_filter_le _ _
  unfold setM
  rw [List.length_append, List.length_append]
  split <;> simp only [List.length_nil, List.length_cons] <;> omega
def conflictM (P : PT) (n c : Int) : Bool :=
  if P.kind = 0 ∨ c = 0 ∨ holdsM P n = true then false
  else if P.kind = 1 then c != 1
  else if P.kind = 3 then true
  else if P.kind = 5 ∨ P.kind = 7 then c != 1 && !(keyM P.regs n).2
  else !(keyM P.regs n).2
def reservedM (P : PT) : Int × Int := if P.kind = 0 then (0, -1) else if allB P.kind = true then (P.kind, -1) else (P.kind, P.holder)
def regB (r : Int × Int) : List Int := IntKind.u8.wrap r.1 :: beB 8 r.2
theorem regB_len (r : Int × Int) : (regB r).length = 9 := by simp [regB, beB_len]
def saveM (P : PT) : List Int := if P.aptpl = false then [] else [80, 82, (reservedM P).1, IntKind.u8.wrap (reservedM P).2, IntKind.u8.wrap P.regs.length] ++ P.regs.flatMap regB
theorem flatB_len (l : List (Int × Int)) : (l.flatMap regB).length = l.length * 9 := by
  induction l with
  | nil => simp
  | cons a l ih => rw [List.flatMap_cons, List.length_append, regB_len, ih, List.length_cons]; omega
theorem all_call {H : Hp} {k : Int}  :
  ACalls Try.prog 19 [.int .u8 k] H (fun v H' => v = .bool (allB k) ∧ Stt [] H H' []) := by
 refine acallsW Try.func19 f19_ok (Nat.le_of_ble_eq_true rfl) fun hw => ?_
 have st : Stt [] H H [] := Stt.start hw
 unfold f19c
 show AWl _ _ _ _ _
 refine aN rfl rfl (by constructor) ?_
 refine sE ?_
 show AWl _ _ _ _ _
 iterate 3 refine aN rfl rfl (by constructor) ?_
 refine gCase 5 rfl (fun h1 => ?_) (fun h1 => ?_)
 ·refine gF rfl (by decide) ?_
  refine gF rfl (by decide) ?_
  iterate 2 refine aN rfl rfl (by constructor) ?_
  refine sE ?_
  refine ⟨_, out1 (r_tmp rfl (by constructor)), ?_⟩
  refine ⟨congrArg Value.bool ?_, st.drop⟩
  unfold allB; simp_all
 ·refine gT rfl ?_
  refine aN rfl rfl (by constructor) ?_
  refine gT rfl ?_
  iterate 3 refine aN rfl rfl (by constructor) ?_
  refine sE ?_
  refine ⟨_, out1 (r_tmp rfl (by constructor)), ?_⟩
  refine ⟨congrArg Value.bool ?_, st.drop⟩
  unfold allB; simp_all
theorem types_call {H : Hp} {k : Int}  :
  ACalls Try.prog 20 [.int .u8 k] H (fun v H' => v = .bool (typeB k) ∧ Stt [] H H' []) := by
 refine acallsW Try.func20 f20_ok (Nat.le_of_ble_eq_true rfl) fun hw => ?_
 have st : Stt [] H H [] := Stt.start hw
 unfold f20c
 show AWl _ _ _ _ _
 refine aN rfl rfl (by constructor) ?_
 refine sE ?_
 show AWl _ _ _ _ _
 iterate 3 refine aN rfl rfl (by constructor) ?_
 refine gCase 5 rfl (fun h1 => ?_) (fun h1 => ?_)
 ·refine gF rfl (by decide) ?_
  refine gF rfl (by decide) ?_
  iterate 2 refine aN rfl rfl (by constructor) ?_
  refine gF rfl (by decide) ?_
  refine gF rfl (by decide) ?_
  refine gF rfl (by decide) ?_
  refine gU rfl ?_
  refine gU rfl ?_
  refine gF rfl (by decide) ?_
  iterate 2 refine aN rfl rfl (by constructor) ?_
  refine sE ?_
  refine ⟨_, out1 (r_tmp rfl (by constructor)), ?_⟩
  refine ⟨congrArg Value.bool ?_, st.drop⟩
  unfold typeB; simp_all <;> omega
 ·refine gT rfl ?_
  refine aN rfl rfl (by constructor) ?_
  refine gT rfl ?_
  iterate 3 refine aN rfl rfl (by constructor) ?_
  refine gCase 9 rfl (fun h2 => ?_) (fun h2 => ?_)
  ·refine gF rfl (by decide) ?_
   refine gF rfl (by decide) ?_
   refine gF rfl (by decide) ?_
   refine gU rfl ?_
   refine gU rfl ?_
   refine gF rfl (by decide) ?_
   iterate 2 refine aN rfl rfl (by constructor) ?_
   refine sE ?_
   refine ⟨_, out1 (r_tmp rfl (by constructor)), ?_⟩
   refine ⟨congrArg Value.bool ?_, st.drop⟩
   unfold typeB; simp_all <;> omega
  ·refine gT rfl ?_
   refine aN rfl rfl (by constructor) ?_
   refine gT rfl ?_
   refine aN rfl rfl (by constructor) ?_
   refine gT rfl ?_
   refine aN rfl rfl (by constructor) ?_
   refine gCase 12 rfl (fun h3 => ?_) (fun h3 => ?_)
   ·refine gT rfl ?_
    refine aN rfl rfl (by constructor) ?_
    refine gT rfl ?_
    refine aN rfl rfl (by constructor) ?_
    refine gT rfl ?_
    iterate 3 refine aN rfl rfl (by constructor) ?_
    refine sE ?_
    refine ⟨_, out1 (r_tmp rfl (by constructor)), ?_⟩
    refine ⟨congrArg Value.bool ?_, st.drop⟩
    unfold typeB; simp_all <;> omega
   ·refine gF rfl (by decide) ?_
    refine gF rfl (by decide) ?_
    refine gT rfl ?_
    iterate 3 refine aN rfl rfl (by constructor) ?_
    refine sE ?_
    refine ⟨_, out1 (r_tmp rfl (by constructor)), ?_⟩
    refine ⟨congrArg Value.bool ?_, st.drop⟩
    unfold typeB; simp_all <;> omega
theorem key_call {H : Hp} {b : Nat} {x : Value} {P : PT} {n : Int} (hk : H.m b = some ⟨true, 79, [x, .int .u32 P.gen, .int .u8 P.kind, .int .i64 P.holder, .bool P.aptpl]⟩) (hS : Sl H 2 P.regs.length (P.regs.flatMap regE) x) (hn : P.regs.length ≤ 1000) :
  ACalls Try.prog 29 [.pointer (some ⟨b, 0, none⟩), .int .i64 n] H (fun v H' => v = .tuple #[.int .u64 (keyM P.regs n).1, .bool (keyM P.regs n).2] ∧ Stt [] H H' []) := by
 refine acallsW Try.func29 f29_ok (Nat.le_of_ble_eq_true rfl) fun hw => ?_
 have st : Stt [] H H [] := Stt.start hw
 replace st := st.ro hk (by simp)
 unfold f29c
 show AWl _ _ _ _ _
 iterate 2 refine aN rfl rfl (by constructor) ?_
 refine sE ?_
 show AWl _ _ _ _ _
 iterate 3 refine aN rfl rfl (by constructor) ?_
 refine aLdQ st 0 rfl rfl rfl (rfl : x = _) ?_
 refine aLen (st.slc hS) rfl ?_
 refine aN rfl rfl (by constructor) ?_
 refine sE ?_
 show AW _ (.loop _) _ _ _
 refine AW_loopN (fun m t1 H1 => ∃ (j : Nat), m = P.regs.length - j ∧ (j ≤ P.regs.length) ∧ (∀ i, i < j → (P.regs.getD i (0, 0)).1 ≠ n) ∧ t1 13 = .int .i64 (j : Int) ∧ Stt [] H H1 []) (P.regs.length - 0) ⟨0, rfl, by omega, fun i hi => by omega, rfl, (st.sel [] (by decide))⟩ [4, 5, 7, 13, 14, 15, 16, 17, 18, 19, 20, 21, 22, 23] (by decide) ?_
 rintro m t1 H1 hk hI
 obtain ⟨j, rfl, hj, hno, ht13, st⟩ := hI
 obtain ⟨u, rfl⟩ : ∃ u, t1 = (upd (mix [4, 5, 7, 13, 14, 15, 16, 17, 18, 19, 20, 21, 22, 23] _ u) (some 13) _) := ⟨t1, by rw [← hk, upd_self ht13]⟩
 clear hk ht13
 show AWl _ _ _ _ _
 refine aN rfl rfl (by constructor) ?_
 refine sE ?_
 show AW _ (.cond _ _ _) _ _ _
 refine cC' rfl (fun h1 => ?_) (fun h1 => ?_)
 ·have hlt : j < P.regs.length := by have := of_decide_eq_true h1; omega
  show AWl _ _ _ _ _
  refine aIxE regE_len (0, 0) (l := P.regs) (st.slc hS) rfl rfl (by omega) fun b15 o15 g15 => ?_
  refine aLdAG rfl g15 ?_
  refine aNewP st rfl rfl (by repeat constructor) fun b7 H2 st => ?_
  refine aSt st 0 rfl rfl rfl rfl (by first | rfl | simp [cellsOf, *]) (by first | decide | (simp [*]; done) | (simp [k8]; done)) (by repeat constructor) fun H3 st => ?_
  refine sE ?_
  show AWl _ _ _ _ _
  refine aN rfl rfl (by constructor) ?_
  refine aLd st 0 rfl rfl rfl (by constructor) ?_
  iterate 2 refine aN rfl rfl (by constructor) ?_
  refine sE ?_
  show AW _ (.cond _ _ _) _ _ _
  refine cC' rfl (fun h4 => ?_) (fun h4 => ?_)
  ·have hq : (P.regs.getD j (0, 0)).1 = n := by simpa using h4
   show AWl _ _ _ _ _
   refine aN rfl rfl (by constructor) ?_
   refine aLd st 0 rfl rfl rfl (by constructor) ?_
   iterate 2 refine aN rfl rfl (by constructor) ?_
   refine sE ?_
   refine ⟨_, out2 (r_tmp rfl (by constructor)) (r_tmp rfl (by constructor)) ⟨rfl, rfl⟩, ?_⟩
   exact ⟨by rw [keyM_at hlt hno hq]; rfl, st.drop⟩
  ·have hq : (P.regs.getD j (0, 0)).1 ≠ n := by simpa using h4
   show AWl _ _ _ _ _
   iterate 2 refine aN rfl rfl (by constructor) ?_
   refine sE ?_
   exact ⟨_, by omega, j + 1, rfl, by omega, fun i hi => by { rcases Nat.lt_succ_iff_lt_or_eq.1 hi with h | h; exact hno i h; subst h; exact hq }, congrArg (Value.int .i64) (wi _ (by omega)), (st.sel [] (by decide))⟩
 ·have hge : j = P.regs.length := by have := of_decide_eq_false h1; omega
  subst hge
  show AWl _ _ _ _ _
  iterate 2 refine aN rfl rfl (by constructor) ?_
  refine sE ?_
  refine ⟨_, out2 (r_tmp rfl (by constructor)) (r_tmp rfl (by constructor)) ⟨rfl, rfl⟩, ?_⟩
  exact ⟨by rw [keyM_no hno], st.drop⟩
end Go.Proofs.Ytihkghfmihdicaa.Abs
