/- An abstract machine for the program's text, part 10: operations are told as instructions. -/
import Derived.Test.YtjmjkdelkaflmaaGreatDoorA9M
import Derived.Orders
set_option linter.unusedVariables false
set_option linter.unusedSimpArgs false
namespace Go.Proofs.YtjmjkdelkaflmaaGreatDoor.Abs
open Go Go.RowKit
def sizeT (P : Program) (T : TypeId) : Option Nat := (P.info? T).map (·.size)
def zeroT (P : Program) (T : TypeId) : Option (List Value) :=
 match (P.info? T).bind (·.zero) with
 | some z => if z.cells.toList.all okC = true ∧ z.cells.toList.length ≤ 16777216 then some z.cells.toList else none
 | none => none
def partsOf (P : Program) (n : Nat) (T : TypeId) (ps : List (Nat × Operand)) : Option (List (Nat × Nat × Opd)) :=
 match placesOf P T with
 | some place => ps.mapM fun p => (place p.1).bind fun q => (cO n p.2).map fun x => (q.1, q.2, x)
 | none => none
def cBuiltin (P : Program) (n : Nat) (b : Builtin) (xs : List Operand) (Ts : List TypeId) : Option AI :=
 match b, xs, Ts with
 | .len, [x], [T] => match P.underlying T with
  | some .string => (cO n x).map (.len 2)
  | some (.slice _) => (cO n x).map (.len 4)
  | some (.array m _) => some (.lenK m)
  | some (.pointer T') => match P.underlying T' with
   | some (.array m _) => some (.lenK m)
   | _ => none
  | _ => none
 | .append, [x, y], [T, T2] => match P.underlying T, P.underlying T2 with
  | some (.slice E), some (.int _) => match P.info? E, zeroT P E with
   | some i, some z => if z.length = i.size ∧ 0 < i.size then (cO n x).bind fun x => (cO n y).map fun y => .appendZ E i.size i.bytes z x y else none
   | _, _ => none
  | some (.slice E), some d => match P.info? E with
   | some i => if (i.zero.map (·.cells.size) == some i.size && decide (0 < i.size) && (tkOf (some d) == 2 || tkOf (some d) == 4)) = true then
     (cO n x).bind fun x => (cO n y).map fun y => .append E i.size i.bytes x y
    else none
   | none => none
  | _, _ => none
 | .copy, [x, y], [T, _] => match P.underlying T with
  | some (.slice E) => (sizeT P E).bind fun sz => (cO n x).bind fun x => (cO n y).map fun y => .copy sz x y
  | _ => none
 | .min, [x, y], _ => (cO n x).bind fun x => (cO n y).map fun y => .minmax false x y
 | .max, [x, y], _ => (cO n x).bind fun x => (cO n y).map fun y => .minmax true x y
 | .delete, [x, y], [T, _] => match P.underlying T with
  | some (.map K _) => (keyT P K).bind fun kd => (cO n x).bind fun x => (cO n y).map fun y => .mapDel kd x y
  | _ => none
 | _, _, _ => none
def callable (P : Program) (f : FuncId) : Bool :=
 match P.funcs[f]? with
 | some fn => !(fn.name == "runtime.NumGoroutine") && fn.body.isSome
 | none => false
def ptrOp (P : Program) (op : BinOp) (T : TypeId) (x y : Operand) : Bool :=
 match P.underlying T with
 | some (.pointer e) => match sizeT P e with
  | some m => decide (m ≠ 0 ∧ (op = .eql ∨ op = .neq)) && (match x, y with
   | .tmp _, .tmp _ => true
   | _, _ => false)
  | none => false
 | _ => false
def cI (P : Program) (n : Nat) (o : Oper) : Option AI :=
 match o.op with
 | .move x => (cO n x).map .mov
 | .assign x => (cO n x).map .mov
 | .pick c x y => (cO n c).bind fun c => (cO n x).bind fun x => (cO n y).map fun y => .pick c x y
 | .box T x => (sizeT P T).bind fun m => if m ≤ 16777216 then (cO n x).map (.box T m) else none
 | .alloc T => (zeroT P T).map (.alloc T)
 | .build T ps => (zeroT P T).bind fun z => (partsOf P n T ps.toList).map (.build z)
 | .buildSlice T m ps => match P.underlying T with
  | some (.slice E) => (zeroT P E).bind fun z => if sizeT P E = some z.length ∧ m * z.length ≤ 16777216 ∧ 0 < z.length then
    (ps.toList.mapM fun p => ((fun i => some (i * z.length, z.length)) p.1 : Option (Nat × Nat)).bind fun q => (cO n p.2).map fun x => (q.1, q.2, x)).map (.lit E z.length m (mkCells z m)) else none
  | _ => none
 | .load T x => match isRowT P T with
  | some false => (cO n x).map .load
  | some true => (sizeT P T).bind fun m => (cO n x).map (.loadA m)
  | none => none
 | .store T x y => (sizeT P T).bind fun m => (cO n x).bind fun x => (cO n y).map (.store m x)
 | .nilCheck x => (cO n x).map .nilck
 | .binOp op T x y _ => match deepKinds P T with
  | some ks => if op = .eql ∨ op = .neq then (cO n x).bind fun x => (cO n y).map (.eqA (op == .neq) ks x) else none
  | none => if ptrOp P op T x y = true then (cO n x).bind fun x => (cO n y).map (.mapGet none undef (op == .neq) x) else (cO n x).bind fun x => (cO n y).map (.bin (tkOf (P.underlying T)) op x)
 | .unOp op _ x => (cO n x).map (.un op)
 | .convert S D x => match P.underlying S, P.underlying D with
  | some _, some (.int k) => (cO n x).map (.conv k)
  | some (.slice E), some .string => (match P.underlying E with | some (.int .u8) => (cO n x).map .str | _ => none)
  | some .string, some (.slice E) => (match P.underlying E with | some (.int .u8) => if E = 5 then (cO n x).map (.bytesS E) else none | _ => none)
  | some (.slice E), some (.slice _) => if S = D then (match P.underlying E with | some (.int .u8) => (cO n x).map .same | _ => none) else none
  | _, _ => none
 | .makeSlice T x y => match P.underlying T with
  | some (.slice E) => match P.info? E with
   | some i => (zeroT P E).bind fun z => if z.length = i.size ∧ 0 < i.size then (cO n x).bind fun x => (cO n y).map (.make E z i.bytes x) else none
   | none => none
  | _ => none
 | .slice T x lo hi none => match P.underlying T with
  | some (.slice E) => (sizeT P E).bind fun sz => (cO n x).bind fun x => (cOO n lo).bind fun lo => (cOO n hi).map (.cut sz x lo)
  | some .string => (cO n x).bind fun x => (cOO n lo).bind fun lo => (cOO n hi).map (.cutS x lo)
  | some (.array m E) => (sizeT P E).bind fun sz => (cO n x).bind fun x => (cOO n lo).bind fun lo => (cOO n hi).map (.cutA m sz x lo)
  | _ => none
 | .fieldAddr T x f => match P.underlying T with
  | some (.struct fs) => match fs[f]? with
   | some fd => (sizeT P fd.type).bind fun m => if m ≠ 0 then (cO n x).map (.fadr fd.offset) else none
   | none => none
  | _ => none
 | .indexAddr T x i => match P.underlying T with
  | some (.slice E) => (sizeT P E).bind fun sz => (cO n x).bind fun x => (cO n i).map (.iadr sz x)
  | some (.array m E) => (sizeT P E).bind fun sz => (cO n x).bind fun x => (cO n i).map (.iadrA m sz x)
  | _ => none
 | .index T x i => match P.underlying T with
  | some .string => (cO n x).bind fun x => (cO n i).map (.idxS x)
  | some (.array m E) => (isRowT P E).bind fun b => (sizeT P E).bind fun sz => (cO n x).bind fun x => (cO n i).map (.idxA m sz b x)
  | _ => none
 | .field T x f => match P.underlying T with
  | some (.struct fs) => match fs[f]? with
   | some fd => if isRowT P fd.type = some false then (cO n x).map fun x => .idxA (fd.offset + 1) 1 false x (.c (.int .i64 fd.offset)) else none
   | none => none
  | _ => none
 | .extract x j => (cO n x).map (.ext j)
 | .makeMap T none => match P.underlying T with
  | some (.map _ _) => some .mkMap
  | _ => none
 | .lookup T x k okc => match P.underlying T with
  | some (.map K E) => (keyT P K).bind fun kd => match (P.info? E).bind (·.zero) with
   | some z => if okC z = true then (cO n x).bind fun x => (cO n k).map fun k => .mapGet kd z okc x k else none
   | none => none
  | _ => none
 | .mapUpdate T m k x => match P.underlying T with
  | some (.map K _) => (keyT P K).bind fun kd => (cO n m).bind fun m => (cO n k).bind fun k => (cO n x).map fun x => .mapSet kd m k x
  | _ => none
 | .makeFunc (.func f) first captured => if first.toList = [] then (captured.toList.mapM (cO n)).map (.mkFunc f) else none
 | .call c => match c.callee with
  | .builtin b => cBuiltin P n b c.args.toList c.argTypes.toList
  | .value (.func f) => if callable P f = true then (c.args.toList.mapM (cO n)).map (.call f) else (c.args.toList.mapM (cO n)).map (.xcall f)
  | .value (.tmp i) => (cO n (.tmp i)).bind fun x => (c.args.toList.mapM (cO n)).map (.callV x)
  | _ => none
 | _ => none
section
variable {P : Program} {o : Oper} {a : Act} {n : Nat} {t : Nat → Value} {w w0 : World} {ρ : Rho} {H : Hp}
theorem zeroT_spec {T : TypeId} {zs : List Value} (h : zeroT P T = some zs) : ∃ z, (P.info? T).bind (·.zero) = some z ∧ z.cells.toList = zs ∧ zs.all okC = true ∧ zs.length ≤ maxLen := by
 unfold zeroT at h
 split at h
 ·rename_i z hz
  split at h
  ·rename_i hc
   injection h with h
   subst h
   refine ⟨z, hz, rfl, hc.1, ?_⟩
   rw [show maxLen = 9223372036854775807 by decide]
   omega
  ·cases h
 ·cases h
theorem pair {α β : Type} {x y : α} {u v : β} (h : some (x, u) = some (y, v)) : x = y ∧ u = v := by
 injection h with h
 injection h with h1 h2
 exact ⟨h1, h2⟩
def Both (P : Program) (o : Oper) (a : Act) (w : World) (ρ : Rho) (i : AI) (v : Value) (H H' : Hp) (w0 : World) : Prop := Ok P o a w ρ v H' w0 ∧ (quiet i = true → H' = H ∧ Ok0 P o a w ρ v)
theorem Ok0.both {i : AI} {v : Value} (h0 : Ok0 P o a w ρ v) (h : RH ρ H w0 w) : Both P o a w ρ i v H H w0 := ⟨h0.ok h, fun _ => ⟨rfl, h0⟩⟩
theorem ok_builtin {ca : Call} {b : Builtin} {i : AI} {v : Value} {H' : Hp} (hop : o.op = .call ca) (hb : ca.callee = .builtin b) (hi : cBuiltin P n b ca.args.toList ca.argTypes.toList = some i) (hv : aI i (ev t) H = some (v, H')) (hg : RG ρ n t a) (h : RH ρ H w0 w) : Both P o a w ρ i v H H' w0 := by
 have arr : ∀ {α : Type} {xs : Array α} {l : List α}, xs.toList = l → xs = l.toArray := fun h => by rw [← h, Array.toArray_toList]
 unfold cBuiltin at hi
 split at hi
 ·rename_i x T hxs hTs
  split at hi
  ·rename_i hu
   simp only [Option.map_eq_some_iff] at hi
   obtain ⟨x', hx, rfl⟩ := hi
   simp only [aI] at hv
   split at hv
   ·simp at hv
   ·rename_i s hs
    simp only [if_true] at hv
    obtain ⟨rfl, rfl⟩ := pair hv
    exact (ok_len hop hb (arr hxs) (arr hTs) hx (.inl ⟨hu, s, hs, rfl⟩) hg h).both h
   ·cases hv
  ·rename_i e hu
   simp only [Option.map_eq_some_iff] at hi
   obtain ⟨x', hx, rfl⟩ := hi
   simp only [aI] at hv
   split at hv
   ·rename_i p m c hs
    simp only [if_true] at hv
    obtain ⟨rfl, rfl⟩ := pair hv
    exact (ok_len hop hb (arr hxs) (arr hTs) hx (.inr ⟨e, hu, p, c, hs⟩) hg h).both h
   ·simp at hv
   ·cases hv
  ·rename_i m e hu
   injection hi with hi
   subst hi
   simp only [aI] at hv
   obtain ⟨rfl, rfl⟩ := pair hv
   exact (ok_lenK hop hb (arr hxs) (arr hTs) (.inl hu) h).both h
  ·rename_i T' hu
   split at hi
   ·rename_i m e hu'
    injection hi with hi
    subst hi
    simp only [aI] at hv
    obtain ⟨rfl, rfl⟩ := pair hv
    exact (ok_lenK hop hb (arr hxs) (arr hTs) (.inr ⟨T', hu, hu'⟩) h).both h
   ·cases hi
  ·cases hi
 ·rename_i x y T T2 hxs hTs
  split at hi
  ·rename_i E k0 hu hu2
   split at hi
   ·rename_i ti z hti hz
    split at hi
    ·rename_i hc
     obtain ⟨zv, hz1, hz2, hz3, hz4⟩ := zeroT_spec hz
     rw [hti] at hz1
     simp only [Option.bind_some] at hz1
     simp only [Option.map_eq_some_iff, Option.bind_eq_some_iff] at hi
     obtain ⟨x', hx, y', hy, rfl⟩ := hi
     exact ⟨ok_appendZ ⟨ca, hop, hb, arr hxs, arr hTs⟩ hu hu2 hti hz1 hz2 hc.1 hz3 hc.2 hx hy hv hg h, fun hq => by cases hq⟩
    ·cases hi
   ·cases hi
  ·rename_i E d _ hu hu2
   split at hi
   ·rename_i ti hti
    split at hi
    ·rename_i hc
     simp only [Bool.and_eq_true, Bool.or_eq_true, beq_iff_eq, decide_eq_true_eq] at hc
     obtain ⟨⟨hz, hpos⟩, hd⟩ := hc
     obtain ⟨z, hz1, hz2⟩ := Option.map_eq_some_iff.1 hz
     simp only [Option.map_eq_some_iff, Option.bind_eq_some_iff] at hi
     obtain ⟨x', hx, y', hy, rfl⟩ := hi
     refine ⟨ok_append ⟨ca, hop, hb, arr hxs, arr hTs⟩ hu hu2 ?_ hti hz1 hz2 hpos hx hy hv hg h, fun hq => by cases hq⟩
     rcases hd with hd | hd
     ·left; cases d <;> simp_all [tkOf]
     ·right; cases d <;> simp_all [tkOf]
    ·cases hi
   ·cases hi
  ·cases hi
 ·rename_i x y T T2 hxs hTs
  split at hi
  ·rename_i E hu
   simp only [Option.map_eq_some_iff, Option.bind_eq_some_iff] at hi
   obtain ⟨sz, hs, x', hx, y', hy, rfl⟩ := hi
   exact ⟨ok_copy hop hb (arr hxs) (arr hTs) hu hs hx hy hv hg h, fun hq => by cases hq⟩
  ·cases hi
 ·rename_i x y hxs
  simp only [Option.map_eq_some_iff, Option.bind_eq_some_iff] at hi
  obtain ⟨x', hx, y', hy, rfl⟩ := hi
  simp only [aI] at hv
  split at hv
  ·rename_i k p k' q h1 h2
   split at hv
   ·rename_i hk
    subst hk
    obtain ⟨rfl, rfl⟩ := pair hv
    exact (ok_min hop hb (arr hxs) rfl hx hy h1 h2 hg h).both h
   ·cases hv
  ·cases hv
 ·rename_i x y hxs
  simp only [Option.map_eq_some_iff, Option.bind_eq_some_iff] at hi
  obtain ⟨x', hx, y', hy, rfl⟩ := hi
  simp only [aI] at hv
  split at hv
  ·rename_i k p k' q h1 h2
   split at hv
   ·rename_i hk
    subst hk
    obtain ⟨rfl, rfl⟩ := pair hv
    exact (ok_max hop hb (arr hxs) rfl hx hy h1 h2 hg h).both h
   ·cases hv
  ·cases hv
 ·rename_i x y T T2 hxs hts
  split at hi
  ·rename_i K E hu
   simp only [Option.map_eq_some_iff, Option.bind_eq_some_iff] at hi
   obtain ⟨kd, hK, x', hx, y', hy, rfl⟩ := hi
   exact ⟨ok_mapDel hop hb (arr hxs) (arr hts) hu hK hx hy hv hg h, fun hq => by cases hq⟩
  ·cases hi
 ·cases hi
theorem run_sameAddr_apart {a b : Addr} {ca cb : Array Value} {ta tb : TypeId} {fa fb : Nat × Nat} (hne : a.block ≠ b.block) (ha : w.heap[a.block]? = some (.cells ca ta fa)) (hb : w.heap[b.block]? = some (.cells cb tb fb)) (hfa : fa.1 = fa.2) (hfb : fb.1 = fb.2) :
  (sameAddr a b).run P w = .ok false w := by
 obtain ⟨fa1, fa2⟩ := fa
 obtain ⟨fb1, fb2⟩ := fb
 simp only at hfa hfb
 subst hfa hfb
 have e1 : ∀ o : Nat, (decide (fa1 ≤ o) && decide (o < fa1)) = false := fun o => by rcases Nat.lt_or_ge o fa1 with h | h <;> simp <;> omega
 have e2 : ∀ o : Nat, (decide (fb1 ≤ o) && decide (o < fb1)) = false := fun o => by rcases Nat.lt_or_ge o fb1 with h | h <;> simp <;> omega
 simp [sameAddr, hne, World.frozen?, ha, hb, noView, viewAt, World.shape?, mayBeOne, stringish, e1, e2]
theorem soft_even {t : TypeId} {fr : Nat × Nat} {n : Nat} (h : Soft t fr n) (ht : (ET.ty t).is 5 = false) : fr.1 = fr.2 := by
 rcases h with h | ⟨_, h⟩
 ·exact h
 ·subst h
  simp [ET.is] at ht
theorem ok_ptrEq {op : BinOp} {T yT : TypeId} {x y : Operand} {x' y' : Opd} {v : Value} {H' : Hp} (ho : o.op = .binOp op T x y yT) (hpo : ptrOp P op T x y = true) (hx : cO n x = some x') (hy : cO n y = some y')
  (hv : aI (.mapGet none undef (op == .neq) x' y') (ev t) H = some (v, H')) (hg : RG ρ n t a) (h : RH ρ H w0 w) : Ok P o a w ρ v H' w0 := by
 unfold ptrOp at hpo
 split at hpo
 ·rename_i e hT
  split at hpo
  ·rename_i m hm
   simp only [Bool.and_eq_true, decide_eq_true_eq] at hpo
   obtain ⟨⟨hm0, hop⟩, _⟩ := hpo
   obtain ⟨j, hj, hjm⟩ := Option.map_eq_some_iff.1 hm
   have hu := ev_rel hg hx
   have hw := ev_rel hg hy
   obtain ⟨p, q, b, h1, h2, hb, rfl, rfl⟩ : ∃ p q b, ev t x' = .pointer p ∧ ev t y' = .pointer q ∧ ptrEq H p q = some b ∧ v = .bool (if (op == .neq) = true then !b else b) ∧ H' = H := by
    simp only [aI, show isTup undef = true from rfl, if_true] at hv
    split at hv
    ·rename_i p q hp hq
     obtain ⟨b, hb, he⟩ := Option.map_eq_some_iff.1 hv
     injection he with he1 he2
     exact ⟨p, q, b, hp, hq, hb, he1.symm, he2.symm⟩
    ·cases hv
   rw [h1] at hu
   rw [h2] at hw
   obtain ⟨p', q', e1, e2, he⟩ : ∃ p' q', a.eval x = .pointer p' ∧ a.eval y = .pointer q' ∧ (Op.equal T (.pointer p') (.pointer q')).run P w = .ok b w := by
    cases p with
    | none =>
     cases q with
     | none => simp only [ptrEq, Option.some.injEq] at hb; subst hb; exact ⟨none, none, rv_ptr_none hu, rv_ptr_none hw, eq_ptr_nil hT _ w⟩
     | some q =>
      obtain ⟨q', hq'⟩ := rv_ptr_some hw
      simp only [ptrEq, Option.some.injEq] at hb; subst hb; exact ⟨none, some q', rv_ptr_none hu, hq', eq_ptr_nil hT _ w⟩
    | some p =>
     obtain ⟨p', hp'⟩ := rv_ptr_some hu
     cases q with
     | none => simp only [ptrEq, Option.some.injEq] at hb; subst hb; exact ⟨some p', none, hp', rv_ptr_none hw, eq_nil_ptr hT _ w⟩
     | some q =>
      have hrun : ∀ {r s : Addr} {c : Bool}, (sameAddr r s).run P w = .ok c w → (Op.equal T (.pointer (some r)) (.pointer (some s))).run P w = .ok c w := fun {r s c} hs => by
       show (Op.equalIn (9999 + 1) T _ _).run P w = _
       generalize 9999 = d
       simp [Op.equalIn, run_underlying hT, sizeOf, typeInfo, hj, hjm, hm0, hs]
      obtain ⟨pb, po, pp⟩ := p
      obtain ⟨qb, qo, qp⟩ := q
      cases pp with
      | some _ => simp [ptrEq] at hb
      | none =>
       cases qp with
       | some _ => simp [ptrEq] at hb
       | none =>
        obtain ⟨l, hl, hu⟩ := rv_ptr hu
        obtain ⟨l2, hl2, hw⟩ := rv_ptr hw
        refine ⟨_, _, hu, hw, hrun ?_⟩
        simp only [ptrEq] at hb
        split at hb
        ·rename_i hbq
         subst hbq
         split at hb
         ·rename_i hoq
          subst hoq
          injection hb with hb
          subst hb
          cases hl.symm.trans hl2
          simp [sameAddr]
         ·cases hb
        ·rename_i hne
         split at hb
         ·rename_i k k' hk hk'
          split at hb
          ·rename_i hc
           obtain ⟨c1, c2, c3, c4, c5, c6⟩ := hc
           injection hb with hb
           subst hb
           obtain ⟨l', hl', _, ho1⟩ := h.cells _ _ hk
           cases hl.symm.trans hl'
           obtain ⟨l', hl', _, ho2⟩ := h.cells _ _ hk'
           cases hl2.symm.trans hl'
           obtain ⟨t1, ht1⟩ := ET.ty_of c3
           obtain ⟨t2, ht2⟩ := ET.ty_of c4
           obtain ⟨g1, cur1, fr1, x1, _, x2, x3, _⟩ := (ho1 c1).ty ht1
           obtain ⟨g2, cur2, fr2, y1, _, y2, y3, _⟩ := (ho2 c2).ty ht2
           have hap := h.apart _ _ _ _ _ _ hk hk' c1 hne hl hl2
           rw [ht1] at c5
           rw [ht2] at c6
           refine run_sameAddr_apart (by rw [add_block, add_block]; exact hap) (by rw [add_block, x1]; exact x2) (by rw [add_block, y1]; exact y2) (soft_even x3 c5) (soft_even y3 c6)
          ·cases hb
         ·cases hb
   refine Ok0.ok (Ok.still h (v' := .bool (if (op == .neq) = true then !b else b)) ?_ (.one (.one (.bool _)))) h
   have hq : (eqGuard op T x y (a.eval x) (a.eval y)).run P w = .ok () w := by
    unfold eqGuard
    rw [e1]
    cases op <;> simp
   simp only [execOp, ho, Sem.run_bind, hq, Result.andThen_ok]
   rw [e1, e2]
   rcases hop with rfl | rfl
   ·simp [binOp, he]
   ·simp [binOp, he]
  ·cases hpo
 ·cases hpo
theorem cI_ok {i : AI} {v : Value} {H' : Hp} (hi : cI P n o = some i) (hv : aI i (ev t) H = some (v, H')) (hg : RG ρ n t a) (h : RH ρ H w0 w) : Both P o a w ρ i v H H' w0 := by
 unfold cI at hi
 split at hi
 ·rename_i x ho
  obtain ⟨x', hx, rfl⟩ := Option.map_eq_some_iff.1 hi
  obtain ⟨rfl, rfl⟩ := pair hv
  exact (ok_mov (.inl ho) hx hg h).both h
 ·rename_i x ho
  obtain ⟨x', hx, rfl⟩ := Option.map_eq_some_iff.1 hi
  obtain ⟨rfl, rfl⟩ := pair hv
  exact (ok_mov (.inr ho) hx hg h).both h
 ·rename_i c x y ho
  simp only [Option.map_eq_some_iff, Option.bind_eq_some_iff] at hi
  obtain ⟨c', hc, x', hx, y', hy, rfl⟩ := hi
  simp only [aI] at hv
  split at hv
  ·rename_i b hb
   obtain ⟨rfl, rfl⟩ := pair hv
   exact (ok_pick ho hc hx hy hb hg h).both h
  ·cases hv
 ·rename_i T x ho
  simp only [Option.bind_eq_some_iff] at hi
  obtain ⟨m, hm, hi⟩ := hi
  split at hi
  ·rename_i hle
   obtain ⟨x', hx, rfl⟩ := Option.map_eq_some_iff.1 hi
   simp only [aI] at hv
   split at hv
   ·rename_i hc
    obtain ⟨rfl, rfl⟩ := pair hv
    exact ⟨ok_box ho hx hc.1 (by rw [show maxLen = 9223372036854775807 by decide]; omega) hg h, fun hq => by cases hq⟩
   ·cases hv
  ·cases hi
 ·rename_i T ho
  obtain ⟨zs, hz, rfl⟩ := Option.map_eq_some_iff.1 hi
  obtain ⟨z, h1, h2, h3, h4⟩ := zeroT_spec hz
  obtain ⟨rfl, rfl⟩ := pair hv
  exact ⟨ok_alloc ho h1 h2 h3 h4 h, fun hq => by cases hq⟩
 ·rename_i T ps ho
  simp only [Option.map_eq_some_iff, Option.bind_eq_some_iff] at hi
  obtain ⟨zs, hz, parts, hp, rfl⟩ := hi
  obtain ⟨z, h1, h2, h3, h4⟩ := zeroT_spec hz
  simp only [aI] at hv
  obtain ⟨xs, hx, he⟩ := Option.map_eq_some_iff.1 hv
  obtain ⟨rfl, rfl⟩ := pair (congrArg some he)
  unfold partsOf at hp
  split at hp
  ·rename_i place hpl
   exact (ok_build ho hpl h1 h2 h3 hp hx hg h).both h
  ·cases hp
 ·rename_i T m ps ho
  split at hi
  ·rename_i E hu
   simp only [Option.bind_eq_some_iff] at hi
   obtain ⟨zs, hz, hi⟩ := hi
   obtain ⟨z, h1, h2, h3, h4⟩ := zeroT_spec hz
   split at hi
   ·rename_i hc
    obtain ⟨hs, h24, hpos⟩ := hc
    obtain ⟨parts, hp, rfl⟩ := Option.map_eq_some_iff.1 hi
    simp only [aI] at hv
    obtain ⟨xs, hx, he⟩ := Option.map_eq_some_iff.1 hv
    obtain ⟨rfl, rfl⟩ := pair (congrArg some he)
    exact ⟨ok_lit ho hu hs h1 (by rw [h2]) (by rw [h2]; exact h3) h24 hpos hp (by rw [h2]) hx hg h, fun hq => by cases hq⟩
   ·cases hi
  ·cases hi
 ·rename_i T x ho
  split at hi
  ·rename_i ht
   obtain ⟨x', hx, rfl⟩ := Option.map_eq_some_iff.1 hi
   simp only [aI] at hv
   split at hv
   ·rename_i b q hp
    split at hv
    ·rename_i u hu
     obtain ⟨rfl, rfl⟩ := pair hv
     exact (ok_load ho ht hx hp hu hg h).both h
    ·cases hv
   ·cases hv
  ·rename_i ht
   simp only [Option.map_eq_some_iff, Option.bind_eq_some_iff] at hi
   obtain ⟨m, hm, x', hx, rfl⟩ := hi
   simp only [aI] at hv
   split at hv
   ·rename_i b q hp
    obtain ⟨xs, hxs, he⟩ := Option.map_eq_some_iff.1 hv
    obtain ⟨rfl, rfl⟩ := pair (congrArg some he)
    exact (ok_loadA ho ht hm hx hp hxs hg h).both h
   ·cases hv
  ·cases hi
 ·rename_i T x y ho
  simp only [Option.map_eq_some_iff, Option.bind_eq_some_iff] at hi
  obtain ⟨m, hm, x', hx, y', hy, rfl⟩ := hi
  simp only [aI] at hv
  split at hv
  ·rename_i b q hp
   split at hv
   ·rename_i hc
    obtain ⟨H1, hH, he⟩ := Option.map_eq_some_iff.1 hv
    obtain ⟨rfl, rfl⟩ := pair (congrArg some he)
    exact ⟨ok_store ho hm hx hy hp hc.2 hc.1 hH hg h, fun hq => by cases hq⟩
   ·cases hv
  ·cases hv
 ·rename_i x ho
  obtain ⟨x', hx, rfl⟩ := Option.map_eq_some_iff.1 hi
  simp only [aI] at hv
  split at hv
  ·rename_i p hp
   obtain ⟨rfl, rfl⟩ := pair hv
   exact (ok_nilck ho hx hp hg h).both h
  ·cases hv
 ·rename_i op T x y yT ho
  split at hi
  ·rename_i ks hk
   split at hi
   ·rename_i hop
    simp only [Option.map_eq_some_iff, Option.bind_eq_some_iff] at hi
    obtain ⟨x', hx, y', hy, rfl⟩ := hi
    simp only [aI] at hv
    split at hv
    ·rename_i xs ys h1 h2
     obtain ⟨b, hb, he⟩ := Option.map_eq_some_iff.1 hv
     obtain ⟨rfl, rfl⟩ := pair (congrArg some he)
     have := ok_eqD ho hop hk hx hy h1 h2 hb hg h
     refine Ok0.both ?_ h
     rcases hop with rfl | rfl <;> simpa using this
    ·cases hv
   ·cases hi
  ·split at hi
   ·rename_i hpo
    simp only [Option.map_eq_some_iff, Option.bind_eq_some_iff] at hi
    obtain ⟨x', hx, y', hy, rfl⟩ := hi
    exact ⟨ok_ptrEq ho hpo hx hy hv hg h, fun hq => by cases hq⟩
   ·simp only [Option.map_eq_some_iff, Option.bind_eq_some_iff] at hi
    obtain ⟨x', hx, y', hy, rfl⟩ := hi
    simp only [aI] at hv
    obtain ⟨b, hb, he⟩ := Option.map_eq_some_iff.1 hv
    obtain ⟨rfl, rfl⟩ := pair (congrArg some he)
    exact (ok_bin ho hx hy hb hg h).both h
 ·rename_i op T x ho
  obtain ⟨x', hx, rfl⟩ := Option.map_eq_some_iff.1 hi
  simp only [aI] at hv
  obtain ⟨b, hb, he⟩ := Option.map_eq_some_iff.1 hv
  obtain ⟨rfl, rfl⟩ := pair (congrArg some he)
  exact (ok_un ho hx hb hg h).both h
 ·rename_i S D x ho
  split at hi
  ·rename_i u k hS hD
   obtain ⟨x', hx, rfl⟩ := Option.map_eq_some_iff.1 hi
   simp only [aI] at hv
   split at hv
   ·rename_i j m hj
    obtain ⟨rfl, rfl⟩ := pair hv
    exact (ok_conv ho (by rw [hS]; rfl) hD hx hj hg h).both h
   ·cases hv
  ·rename_i E hS hD
   split at hi
   ·rename_i hE
    obtain ⟨x', hx, rfl⟩ := Option.map_eq_some_iff.1 hi
    simp only [aI] at hv
    split at hv
    ·rename_i p m c hp
     split at hv
     ·rename_i xs hxs
      obtain ⟨ns, hns, he⟩ := Option.map_eq_some_iff.1 hv
      obtain ⟨rfl, rfl⟩ := pair (congrArg some he)
      exact (ok_str ho hS hE hD hx hp hxs hns hg h).both h
     ·cases hv
    ·cases hv
   ·cases hi
  ·rename_i E hS hD
   split at hi
   ·rename_i hE
    split at hi
    ·rename_i hE5
     obtain ⟨x', hx, rfl⟩ := Option.map_eq_some_iff.1 hi
     simp only [aI] at hv
     split at hv
     ·rename_i s hs
      split at hv
      ·rename_i hle
       obtain ⟨rfl, rfl⟩ := pair hv
       exact ⟨ok_bytesS ho hS hD hE hx hs hle hE5 hg h, fun hq => by cases hq⟩
      ·cases hv
     ·cases hv
    ·cases hi
   ·cases hi
  ·rename_i E E2 hS hD
   split at hi
   ·rename_i hSD
    subst hSD
    split at hi
    ·rename_i hE
     obtain ⟨x', hx, rfl⟩ := Option.map_eq_some_iff.1 hi
     simp only [aI] at hv
     split at hv
     ·rename_i b q m c hp
      split at hv
      ·rename_i k hk
       split at hv
       ·rename_i hc
        obtain ⟨rfl, rfl⟩ := pair hv
        exact ⟨ok_same ho hS hE hx hp hk hc.1 hc.2.1 hc.2.2 hg h, fun hq => by cases hq⟩
       ·cases hv
      ·cases hv
     ·cases hv
    ·cases hi
   ·cases hi
  ·cases hi
 ·rename_i T x y ho
  split at hi
  ·rename_i E hu
   split at hi
   ·rename_i ti hti
    simp only [Option.bind_eq_some_iff] at hi
    obtain ⟨zs, hz, hi⟩ := hi
    obtain ⟨z, h1, h2, h3, h4⟩ := zeroT_spec hz
    rw [hti] at h1
    simp only [Option.bind_some] at h1
    split at hi
    ·rename_i hc
     simp only [Option.map_eq_some_iff, Option.bind_eq_some_iff] at hi
     obtain ⟨x', hx, y', hy, rfl⟩ := hi
     simp only [aI] at hv
     split at hv
     ·rename_i k1 m k2 r e1 e2
      split at hv
      ·rename_i hb
       obtain ⟨rfl, rfl⟩ := pair hv
       exact ⟨ok_make ho hu hti h1 h2 hc.1 hc.2 h3 hx hy e1 e2 hb.1 hb.2.1 hb.2.2.1 hb.2.2.2 hg h, fun hq => by cases hq⟩
      ·cases hv
     ·cases hv
    ·cases hi
   ·cases hi
  ·cases hi
 ·rename_i T x lo hi' ho
  split at hi
  ·rename_i E hu
   simp only [Option.map_eq_some_iff, Option.bind_eq_some_iff] at hi
   obtain ⟨sz, hs, x', hx, l', hl, r', hr, rfl⟩ := hi
   simp only [aI] at hv
   split at hv
   ·rename_i hp
    split at hv
    ·rename_i hb
     obtain ⟨rfl, rfl⟩ := pair hv
     exact (ok_cut_nil ho hu hs hx hl hr hp hb hg h).both h
    ·cases hv
   ·rename_i b q m c hp
    split at hv
    ·rename_i l r hb
     obtain ⟨rfl, rfl⟩ := pair hv
     exact (ok_cut ho hu hs hx hl hr hp hb hg h).both h
    ·cases hv
   ·cases hv
  ·rename_i hu
   simp only [Option.map_eq_some_iff, Option.bind_eq_some_iff] at hi
   obtain ⟨x', hx, l', hl, r', hr, rfl⟩ := hi
   simp only [aI] at hv
   split at hv
   ·rename_i s hp
    split at hv
    ·rename_i l r hb
     obtain ⟨rfl, rfl⟩ := pair hv
     exact (ok_cutS ho hu hx hl hr hp hb hg h).both h
    ·cases hv
   ·cases hv
  ·rename_i m E hu
   simp only [Option.map_eq_some_iff, Option.bind_eq_some_iff] at hi
   obtain ⟨sz, hs, x', hx, l', hl, r', hr, rfl⟩ := hi
   simp only [aI] at hv
   split at hv
   ·rename_i b q hp
    split at hv
    ·rename_i l r hb
     obtain ⟨rfl, rfl⟩ := pair hv
     exact (ok_cutA ho hu hs hx hl hr hp hb hg h).both h
    ·cases hv
   ·cases hv
  ·cases hi
 ·rename_i T x f ho
  split at hi
  ·rename_i fs hu
   split at hi
   ·rename_i fd hf
    simp only [Option.bind_eq_some_iff] at hi
    obtain ⟨m, hm, hi⟩ := hi
    split at hi
    ·rename_i hne
     obtain ⟨x', hx, rfl⟩ := Option.map_eq_some_iff.1 hi
     simp only [aI] at hv
     split at hv
     ·rename_i b q hp
      obtain ⟨rfl, rfl⟩ := pair hv
      exact (ok_fadr ho hu hf hm hne hx hp hg h).both h
     ·cases hv
    ·cases hi
   ·cases hi
  ·cases hi
 ·rename_i T x i' ho
  split at hi
  ·rename_i E hu
   simp only [Option.map_eq_some_iff, Option.bind_eq_some_iff] at hi
   obtain ⟨sz, hs, x', hx, y', hy, rfl⟩ := hi
   simp only [aI] at hv
   split at hv
   ·rename_i b q m c k j hp hj
    split at hv
    ·rename_i hb
     obtain ⟨rfl, rfl⟩ := pair hv
     exact (ok_iadr ho hu hs hx hy hp hj hb hg h).both h
    ·cases hv
   ·cases hv
  ·rename_i m E hu
   simp only [Option.map_eq_some_iff, Option.bind_eq_some_iff] at hi
   obtain ⟨sz, hs, x', hx, y', hy, rfl⟩ := hi
   simp only [aI] at hv
   split at hv
   ·rename_i b q k j hp hj
    split at hv
    ·rename_i hb
     obtain ⟨rfl, rfl⟩ := pair hv
     exact (ok_iadrA ho hu hs hx hy hp hj hb hg h).both h
    ·cases hv
   ·cases hv
  ·cases hi
 ·rename_i T x i' ho
  split at hi
  ·rename_i hu
   simp only [Option.map_eq_some_iff, Option.bind_eq_some_iff] at hi
   obtain ⟨x', hx, y', hy, rfl⟩ := hi
   simp only [aI] at hv
   split at hv
   ·rename_i s k j hp hj
    split at hv
    ·rename_i h0
     split at hv
     ·rename_i c hc
      obtain ⟨rfl, rfl⟩ := pair hv
      exact (ok_idxS ho hu hx hy hp hj h0 hc hg h).both h
     ·cases hv
    ·cases hv
   ·cases hv
  ·rename_i m E hu
   simp only [Option.map_eq_some_iff, Option.bind_eq_some_iff] at hi
   obtain ⟨b, hb, sz, hs, x', hx, y', hy, rfl⟩ := hi
   simp only [aI] at hv
   split at hv
   ·rename_i xs k j hp hj
    split at hv
    ·rename_i hc
     split at hv
     ·rename_i hbt
      obtain ⟨rfl, rfl⟩ := pair hv
      exact (ok_idxA ho hu hb hs hx hy hp hj ⟨hc.1, hc.2.1⟩ (by rw [if_pos hbt]) hg h).both h
     ·rename_i hbt
      split at hv
      ·rename_i u hu2
       obtain ⟨rfl, rfl⟩ := pair hv
       exact (ok_idxA ho hu hb hs hx hy hp hj ⟨hc.1, hc.2.1⟩ (by rw [if_neg hbt]; exact hu2) hg h).both h
      ·cases hv
    ·cases hv
   ·cases hv
  ·cases hi
 ·rename_i T x f ho
  split at hi
  ·rename_i fs hu
   split at hi
   ·rename_i fd hf
    split at hi
    ·rename_i hb
     obtain ⟨x', hx, rfl⟩ := Option.map_eq_some_iff.1 hi
     simp only [aI, ev] at hv
     split at hv
     ·rename_i xs k j hp hj
      cases hj
      split at hv
      ·split at hv
       ·rename_i hbt
        cases hbt
       ·split at hv
        ·rename_i u hu2
         obtain ⟨rfl, rfl⟩ := pair hv
         exact (ok_fld ho hu hf hb hx hp (by simpa using hu2) hg h).both h
        ·cases hv
      ·cases hv
     ·cases hv
    ·cases hi
   ·cases hi
  ·cases hi
 ·rename_i x j ho
  obtain ⟨x', hx, rfl⟩ := Option.map_eq_some_iff.1 hi
  simp only [aI] at hv
  split at hv
  ·rename_i vs hp
   split at hv
   ·rename_i u hu
    obtain ⟨rfl, rfl⟩ := pair hv
    exact (ok_ext ho hx hp hu hg h).both h
   ·cases hv
  ·cases hv
 ·rename_i T ho
  split at hi
  ·injection hi with hi
   subst hi
   obtain ⟨rfl, rfl⟩ := pair hv
   exact ⟨ok_mkMap ho h, fun hq => by cases hq⟩
  ·cases hi
 ·rename_i T x k okc ho
  split at hi
  ·rename_i K E hu
   simp only [Option.bind_eq_some_iff] at hi
   obtain ⟨kd, hK, hi⟩ := hi
   split at hi
   ·rename_i z hz
    split at hi
    ·rename_i hzk
     simp only [Option.map_eq_some_iff, Option.bind_eq_some_iff] at hi
     obtain ⟨x', hx, k', hk, rfl⟩ := hi
     exact ⟨ok_mapGet ho hu hK hz hzk hx hk hv hg h, fun hq => by cases hq⟩
    ·cases hi
   ·cases hi
  ·cases hi
 ·rename_i T m k x ho
  split at hi
  ·rename_i K E hu
   simp only [Option.map_eq_some_iff, Option.bind_eq_some_iff] at hi
   obtain ⟨kd, hK, m', hm, k', hk, x', hx, rfl⟩ := hi
   exact ⟨ok_mapSet ho hu hK hm hk hx hv hg h, fun hq => by cases hq⟩
  ·cases hi
 ·rename_i f first captured ho
  split at hi
  ·rename_i hf
   obtain ⟨xs, hx, rfl⟩ := Option.map_eq_some_iff.1 hi
   simp only [aI] at hv
   split at hv
   ·rename_i hp
    obtain ⟨rfl, rfl⟩ := pair hv
    exact ⟨ok_mkFunc ho hf hx hp hg h, fun hq => by cases hq⟩
   ·cases hv
  ·cases hi
 ·rename_i c ho
  split at hi
  ·rename_i b hb
   exact ok_builtin ho hb hi hv hg h
  ·split at hi
   ·obtain ⟨x', hx, rfl⟩ := Option.map_eq_some_iff.1 hi
    cases hv
   ·obtain ⟨x', hx, rfl⟩ := Option.map_eq_some_iff.1 hi
    cases hv
  ·simp only [Option.map_eq_some_iff, Option.bind_eq_some_iff] at hi
   obtain ⟨x', hx, ys, hy, rfl⟩ := hi
   cases hv
  ·cases hi
 ·cases hi
end
structure AO where
 dst : Option Nat
 i : AI
 g : Option (Nat × Bool)
inductive AP where
 | done
 | stop
 | quiet (o : AO) (rest : AP)
 | br (o : AO) (checks : List AO) (rest more : AP)
inductive AC where
 | skip
 | ret
 | exit (id : Nat)
 | list (os : List AO)
 | plan (p : AP)
 | seq (x y : AC)
 | cond (c : Opd) (x y : AC)
 | block (id : Nat) (x : AC)
 | loop (x : AC)
abbrev Tm := Nat → Value
def upd (t : Tm) (d : Option Nat) (v : Value) : Tm :=
 match d with
 | none => t
 | some d => fun i => if i = d then v else t i
def ACalls (P : Program) (f : FuncId) (xs : List Value) (H : Hp) (K : Value → Hp → Prop) : Prop :=
 ∀ ρ w0 w ys, All2 (RV ρ) xs ys → RH ρ H w0 w → Calls P f ys.toArray w fun
  | .returned v', w' => ∃ ρ' v H', Ext ρ ρ' ∧ RV ρ' v v' ∧ RH ρ' H' w0 w' ∧ K v H'
  | _, _ => False
def XCalls (P : Program) (f : FuncId) (xs : List Value) (H : Hp) (K : Value → Hp → Prop) : Prop :=
 ∀ ρ w0 w ys, All2 (RV ρ) xs ys → RH ρ H w0 w → ∃ v' w', (callFunc f ys.toArray).run P w = .ok (.value v') w' ∧ ∃ ρ' v H', Ext ρ ρ' ∧ RV ρ' v v' ∧ RH ρ' H' w0 w' ∧ K v H'
def aRun (P : Program) (i : AI) (g : Opd → Value) (H : Hp) (K : Value → Hp → Prop) : Prop :=
 match i with
 | .call f xs => ACalls P f (xs.map g) H K
 | .xcall f xs => XCalls P f (xs.map g) H K
 | .callV x xs => match g x with
  | .func (.func f) first cs => first.toList = [] ∧ callable P f = true ∧ ACalls P f (xs.map g ++ cs.toList) H K
  | _ => False
 | i => ∃ v H', aI i g H = some (v, H') ∧ K v H'
inductive Gd : Value → Option Bool → Prop
 | bool (b : Bool) : Gd (.bool b) (some b)
 | none : Gd undef none
def aStep (P : Program) (o : AO) (K : Tm → Hp → Prop) (t : Tm) (H : Hp) : Prop :=
 match o.g with
 | none => aRun P o.i (ev t) H fun v H' => K (upd t o.dst v) H'
 | some (g, want) => ∃ b, Gd (t g) b ∧ if b = some want then aRun P o.i (ev t) H fun v H' => K (upd t o.dst v) H' else K (upd t o.dst undef) H
def aHeld (o : AO) (t : Tm) (H : Hp) : Prop :=
 match o.dst with
 | none => False
 | some d => match o.g with
  | none => aI o.i (ev t) H = some (t d, H)
  | some (g, want) => ∃ b, Gd (t g) b ∧ if b = some want then aI o.i (ev t) H = some (t d, H) else t d = undef
def heldAll (cs : List AO) (t : Tm) (H : Hp) : Prop :=
 match cs with
 | [] => True
 | c :: cs => aHeld c t H ∧ heldAll cs t H
def AWl (P : Program) (os : List AO) (K : Tm → Hp → Prop) (t : Tm) (H : Hp) : Prop :=
 match os with
 | [] => K t H
 | o :: os => aStep P o (AWl P os K) t H
def AWp (P : Program) (p : AP) (K : Tm → Hp → Prop) (t : Tm) (H : Hp) : Prop :=
 match p with
 | .done => K t H
 | .stop => True
 | .quiet o rest => aStep P o (AWp P rest K) t H
 | .br o cs rest more => aStep P o (fun t' H' => heldAll cs t' H' ∧ AWp P rest K t' H') t H ∧ AWp P more K t H
def xThen (next : Tm → Hp → Prop) (Q : Exit → Tm → Hp → Prop) : Exit → Tm → Hp → Prop
 | .normal, t, H => next t H
 | e, t, H => Q e t H
def xBlock (id : Nat) (Q : Exit → Tm → Hp → Prop) : Exit → Tm → Hp → Prop
 | .exit id', t, H => if id' = id then Q .normal t H else Q (.exit id') t H
 | e, t, H => Q e t H
def AW (P : Program) (c : AC) (Q : Exit → Tm → Hp → Prop) (t : Tm) (H : Hp) : Prop :=
 match c with
 | .skip => Q .normal t H
 | .ret => Q .ret t H
 | .exit id => Q (.exit id) t H
 | .list os => AWl P os (Q .normal) t H
 | .plan p => AWp P p (Q .normal) t H
 | .seq x y => AW P x (xThen (AW P y Q) Q) t H
 | .cond c x y => ∃ b, ev t c = .bool b ∧ if b = true then AW P x Q t H else AW P y Q t H
 | .block id x => AW P x (xBlock id Q) t H
 | .loop x => ∃ (I : Tm → Hp → Prop) (μ : Tm → Hp → Nat), I t H ∧ ∀ t H, I t H → AW P x (xThen (fun t' H' => I t' H' ∧ μ t' H' < μ t H) Q) t H

def cOp (P : Program) (n : Nat) (ops : Array Oper) (o : Oper) : Option AO :=
 match cI P n o with
 | some i =>
  if (o.dst.all fun d => decide (d < n)) = true then
   match o.guard with
   | none => some ⟨o.dst, i, none⟩
   | some (j, want) => match (ops[j]?).bind (·.dst) with
    | some g => if g < n then some ⟨o.dst, i, some (g, want)⟩ else none
    | none => none
  else none
 | none => none
section
variable {P : Program} {o : Oper} {a : Act} {n : Nat} {t : Nat → Value} {w w0 : World} {ρ : Rho} {H : Hp}
theorem RG.ext {ρ' : Rho} (h : RG ρ n t a) (he : Ext ρ ρ') : RG ρ' n t a := ⟨h.size, fun i hi => (h.val i hi).ext he⟩
theorem RG.put {d : Option Nat} {v v' : Value} (h : RG ρ n t a) (hd : ∀ x, d = some x → x < n) (hv : RV ρ v v') : RG ρ n (upd t d v) (a.put d v') := by
 cases d with
 | none => exact h
 | some d =>
  have hdn := hd d rfl
  refine ⟨by simpa [Act.put] using h.size, fun i hi => ?_⟩
  simp only [upd, Act.put]
  by_cases e : i = d
  ·subst e
   rw [if_pos rfl, Array.getD_eq_getD_getElem?, Array.getElem?_setIfInBounds_self_of_lt (by rw [h.size]; exact hi)]
   exact hv
  ·rw [if_neg e, Array.getD_eq_getD_getElem?, Array.getElem?_setIfInBounds_ne (Ne.symm e), ← Array.getD_eq_getD_getElem?]
   exact h.val i hi
theorem put_defers {d : Option Nat} {v : Value} : (a.put d v).defers = a.defers := by cases d <;> rfl
def Outcome (P : Program) (ops : Array Oper) (o : Oper) (a : Act) (w : World) (F : Value → World → Prop) : Prop :=
 (Region.wanted o (yielded ops a.tmps) = true ∧ ((∃ v' w', ((execOp a.eval o).run P w = .ok (.value v') w' ∨ ((execOp a.eval o).run P w = .ok .skip w' ∧ v' = undef)) ∧ F v' w') ∨
  ∃ f args, (execOp a.eval o).run P w = .ok (.enter f args) w ∧ Calls P f args w fun | .returned v', w' => F v' w' | _, _ => False)) ∨
 (Region.wanted o (yielded ops a.tmps) = false ∧ F undef w)
theorem mapM_rel {xs : List Operand} {xs' : List Opd} (h : xs.mapM (cO n) = some xs') (hg : RG ρ n t a) : All2 (RV ρ) (xs'.map (ev t)) (xs.map a.eval) := by
 induction xs generalizing xs' with
 | nil => simp at h; subst h; exact .nil
 | cons x xs ih =>
  simp only [List.mapM_cons, Option.bind_eq_bind, Option.pure_def, Option.bind_eq_some_iff] at h
  obtain ⟨y, hy, ys, hys, he⟩ := h
  injection he with he
  subst he
  exact .cons (ev_rel hg hy) (ih hys)
theorem cB_call {b : Builtin} {ys : List Operand} {Ts : List TypeId} {f : FuncId} {xs : List Opd} (hi : cBuiltin P n b ys Ts = some (.call f xs)) : False := by
 unfold cBuiltin at hi
 revert hi
 repeat' split
 all_goals simp [Option.bind_eq_some_iff, Option.map_eq_some_iff]
theorem cI_calls {i : AI} (hi : cI P n o = some i) :
  (∃ f xs c, i = .call f xs ∧ o.op = .call c ∧ c.callee = .value (.func f) ∧ callable P f = true ∧ c.args.toList.mapM (cO n) = some xs) ∨ (∃ x xs c j, i = .callV x xs ∧ o.op = .call c ∧ c.callee = .value (.tmp j) ∧ cO n (.tmp j) = some x ∧ c.args.toList.mapM (cO n) = some xs) ∨ (∃ f xs c, i = .xcall f xs ∧ o.op = .call c ∧ c.callee = .value (.func f) ∧ c.args.toList.mapM (cO n) = some xs) ∨ ((∀ f xs, i ≠ .call f xs) ∧ (∀ x xs, i ≠ .callV x xs) ∧ ∀ f xs, i ≠ .xcall f xs) := by
 unfold cI at hi
 split at hi
 case h_25 c ho =>
  split at hi
  ·refine .inr (.inr (.inr ⟨fun f xs e => ?_, fun x xs e => ?_, fun f xs e => ?_⟩))
   ·subst e
    exact (cB_call hi).elim
   all_goals
    subst e
    revert hi
    unfold cBuiltin
    repeat' split
    all_goals simp [Option.bind_eq_some_iff, Option.map_eq_some_iff]
  ·rename_i g hb
   split at hi
   ·rename_i hc
    obtain ⟨ys, hy, he⟩ := Option.map_eq_some_iff.1 hi
    exact .inl ⟨_, _, c, he.symm, ho, hb, hc, hy⟩
   ·obtain ⟨ys, hy, he⟩ := Option.map_eq_some_iff.1 hi
    exact .inr (.inr (.inl ⟨_, _, c, he.symm, ho, hb, hy⟩))
  ·rename_i j hb
   simp only [Option.map_eq_some_iff, Option.bind_eq_some_iff] at hi
   obtain ⟨x, hx, ys, hy, he⟩ := hi
   exact .inr (.inl ⟨x, ys, c, j, he.symm, ho, hb, hx, hy⟩)
  ·cases hi
 all_goals
  refine .inr (.inr (.inr ⟨fun f xs e => ?_, fun x xs e => ?_, fun f xs e => ?_⟩)) <;> subst e <;> revert hi <;> repeat' split
  all_goals simp [Option.bind_eq_some_iff, Option.map_eq_some_iff]
theorem run_call {c : Call} {g : Operand} {f : FuncId} {cs : Array Value} (ho : o.op = .call c) (hb : c.callee = .value g) (hg : a.eval g = .func (.func f) #[] cs) (hcl : callable P f = true) : (execOp a.eval o).run P w = .ok (.enter f (c.args.map a.eval ++ cs)) w := by
 unfold callable at hcl
 split at hcl
 ·rename_i fn hfn
  simp only [Bool.and_eq_true, Bool.not_eq_true', beq_eq_false_iff_ne, ne_eq] at hcl
  obtain ⟨h1, h2⟩ := hcl
  have h3 : fn.body.isNone = false := by cases hfb : fn.body <;> simp_all
  simp [execOp, ho, resolve, hb, hg, Deferred.ofValue, invoke, callFunc, hfn, h1, h3]
  intro hn
  rw [hn] at h2
  cases h2
 ·cases hcl
theorem run_ok {i : AI} {K : Value → Hp → Prop} (hi : cI P n o = some i) (hr : aRun P i (ev t) H K) (hg : RG ρ n t a) (h : RH ρ H w0 w) :
  (∃ v' w', ((execOp a.eval o).run P w = .ok (.value v') w' ∨ ((execOp a.eval o).run P w = .ok .skip w' ∧ v' = undef)) ∧ ∃ ρ' v H', Ext ρ ρ' ∧ RV ρ' v v' ∧ RH ρ' H' w0 w' ∧ K v H') ∨
  ∃ f args, (execOp a.eval o).run P w = .ok (.enter f args) w ∧ Calls P f args w fun | .returned v', w' => (∃ ρ' v H', Ext ρ ρ' ∧ RV ρ' v v' ∧ RH ρ' H' w0 w' ∧ K v H') | _, _ => False := by
 rcases cI_calls hi with ⟨f, xs, c, rfl, ho, hb, hcl, hm⟩ | ⟨x, xs, c, j, rfl, ho, hb, hx, hm⟩ | ⟨f, xs, c, rfl, ho, hb, hm⟩ | ⟨hn1, hn2, hn3⟩
 ·right
  have hr' : ACalls P f (xs.map (ev t)) H K := hr
  have := hr' ρ w0 w _ (mapM_rel hm hg) h
  refine ⟨f, (c.args.toList.map a.eval).toArray, ?_, this⟩
  have e1 : (c.args.toList.map a.eval).toArray = c.args.map a.eval := by
   apply Array.ext'
   simp
  rw [e1]
  have := run_call (w := w) (cs := #[]) ho hb (show a.eval (.func f) = .func (.func f) #[] #[] from rfl) hcl
  simpa using this
 ·right
  have hxr := ev_rel hg hx
  simp only [aRun] at hr
  split at hr
  ·rename_i f first cs hq
   obtain ⟨hfi, hcl, hr'⟩ := hr
   rw [hq] at hxr
   have hf0 : first = #[] := Array.ext' hfi
   subst hf0
   obtain ⟨cs', hev, hpl⟩ : ∃ cs' : List Value, a.eval (.tmp j) = .func (.func f) #[] cs'.toArray ∧ PtrL ρ cs.toList cs' := by
    cases hxr with | one hxr => cases hxr with | one hxr => 
     generalize hv : a.eval (.tmp j) = v at hxr
     generalize hu : Value.func (.func f) #[] cs = u at hxr
     cases hxr with
     | func f' hp =>
      injection hu with hu1 hu2 hu3
      injection hu1 with hu1
      subst hu1 hu3
      exact ⟨_, rfl, by simpa using hp⟩
     | _ => cases hu
   have := hr' ρ w0 w _ (All2.append (mapM_rel hm hg) hpl.rv) h
   refine ⟨f, (c.args.toList.map a.eval ++ cs').toArray, ?_, this⟩
   have e1 : (c.args.toList.map a.eval ++ cs').toArray = c.args.map a.eval ++ cs'.toArray := by
    apply Array.ext'
    simp
   rw [e1]
   exact run_call ho hb hev hcl
  ·cases hr
 ·left
  have hr' : XCalls P f (xs.map (ev t)) H K := hr
  obtain ⟨v', w', h1, h2⟩ := hr' ρ w0 w _ (mapM_rel hm hg) h
  refine ⟨v', w', .inl ?_, h2⟩
  have e1 : (c.args.toList.map a.eval).toArray = c.args.map a.eval := by
   apply Array.ext'
   simp
  rw [e1] at h1
  have e2 : a.eval (.func f) = .func (.func f) #[] #[] := rfl
  simp [execOp, ho, resolve, hb, e2, Deferred.ofValue, invoke]
  exact h1
 ·left
  have hr' : ∃ v H', aI i (ev t) H = some (v, H') ∧ K v H' := by
   unfold aRun at hr
   split at hr
   ·exact absurd rfl (hn1 _ _)
   ·exact absurd rfl (hn3 _ _)
   ·exact absurd rfl (hn2 _ _)
   ·exact hr
  obtain ⟨v, H', hv, hk⟩ := hr'
  obtain ⟨ρ', v', w', h1, h2, h3, h4⟩ := (cI_ok hi hv hg h).1
  exact ⟨v', w', h1, ρ', v, H', h2, h3, h4, hk⟩
theorem cOp_spec {ops : Array Oper} {o' : AO} (hc : cOp P n ops o = some o') : cI P n o = some o'.i ∧ o'.dst = o.dst ∧ (∀ x, o.dst = some x → x < n) ∧
  ((o.guard = none ∧ o'.g = none) ∨ ∃ j want g, o.guard = some (j, want) ∧ (ops[j]?).bind (·.dst) = some g ∧ g < n ∧ o'.g = some (g, want)) := by
 unfold cOp at hc
 split at hc
 ·rename_i i hi
  split at hc
  ·rename_i hd
   have hd' : ∀ x, o.dst = some x → x < n := fun x hx => by
    rw [hx] at hd
    simpa using hd
   split at hc
   ·rename_i hg
    injection hc with hc
    subst hc
    exact ⟨hi, rfl, hd', .inl ⟨hg, rfl⟩⟩
   ·rename_i j want hg
    split at hc
    ·rename_i g hgj
     split at hc
     ·rename_i hlt
      injection hc with hc
      subst hc
      exact ⟨hi, rfl, hd', .inr ⟨j, want, g, hg, hgj, hlt, rfl⟩⟩
     ·cases hc
    ·cases hc
  ·cases hc
 ·cases hc
theorem wanted_of {ops : Array Oper} {o' : AO} (hc : cOp P n ops o = some o') (hg : RG ρ n t a) : (o'.g = none → Region.wanted o (yielded ops a.tmps) = true) ∧ ∀ g want b, o'.g = some (g, want) → Gd (t g) b → Region.wanted o (yielded ops a.tmps) = (b == some want) := by
 obtain ⟨_, _, _, hgd⟩ := cOp_spec hc
 rcases hgd with ⟨h1, h2⟩ | ⟨j, want, g, h1, h2, h3, h4⟩
 ·refine ⟨fun _ => by simp [Region.wanted, h1], fun g want b h => ?_⟩
  rw [h2] at h
  cases h
 ·refine ⟨fun h => (by rw [h4] at h; cases h), fun g' want' b h hb => ?_⟩
  rw [h4] at h
  injection h with h
  injection h with e1 e2
  subst e1 e2
  have hv := hg.val g h3
  have hsz : g < a.tmps.size := by rw [hg.size]; exact h3
  have hget : a.tmps[g]? = some (a.tmps.getD g undef) := by
   rw [Array.getD_eq_getD_getElem?, Array.getElem?_eq_getElem hsz]
   rfl
  generalize ht : t g = tv at hb hv
  cases hb with
  | bool b =>
   have hv := rv_bool hv
   rw [hv] at hget
   simp only [Region.wanted, h1, yielded, h2, Option.bind_some, hget]
  | none =>
   have hu : ∃ ys, a.tmps.getD g undef = .tuple ys := by
    generalize a.tmps.getD g undef = y at hv
    unfold undef at hv
    generalize hz : (Value.tuple #[]) = z at hv
    cases hv with
    | one r => cases r with
     | one r => subst hz; cases r
     | agg r => cases hz
    | tuple r => exact ⟨_, rfl⟩
   obtain ⟨ys, hu⟩ := hu
   rw [hu] at hget
   simp only [Region.wanted, h1, yielded, h2, Option.bind_some, hget]
theorem step_out {ops : Array Oper} {o' : AO} {K : Tm → Hp → Prop} (hc : cOp P n ops o = some o') (hs : aStep P o' K t H) (hg : RG ρ n t a) (h : RH ρ H w0 w) :
  Outcome P ops o a w fun v' w' => ∃ ρ' v H', Ext ρ ρ' ∧ RV ρ' v v' ∧ RH ρ' H' w0 w' ∧ K (upd t o.dst v) H' := by
 obtain ⟨hi, hd, _, _⟩ := cOp_spec hc
 obtain ⟨w1, w2⟩ := wanted_of hc hg
 unfold aStep at hs
 rw [hd] at hs
 split at hs
 ·rename_i hgn
  exact .inl ⟨w1 hgn, run_ok hi hs hg h⟩
 ·rename_i g want hgs
  obtain ⟨b, hb, hs⟩ := hs
  split at hs
  ·rename_i hbw
   subst hbw
   exact .inl ⟨by rw [w2 g _ _ hgs hb]; simp, run_ok hi hs hg h⟩
  ·rename_i hbw
   exact .inr ⟨by rw [w2 g want b hgs hb]; simpa using hbw, ρ, undef, H, Ext.refl _, rv_undef _, h, hs⟩
theorem Outcome.wp {ops : Array Oper} {F : Value → World → Prop} {K' : Act → World → Prop} {Q : Exit → Act → World → Prop} (ho : Outcome P ops o a w F) (hK : ∀ v w', F v w' → K' (a.put o.dst v) w') :
  if Region.wanted o (yielded ops a.tmps) then o.wp P a w K' Q ∨ (o.asks P a w ∧ LetsOut Q) else K' (a.put o.dst undef) w := by
 rcases ho with ⟨hw, ho⟩ | ⟨hw, hf⟩
 ·rw [if_pos hw]
  left
  unfold Oper.wp
  rcases ho with ⟨v', w', hr, hf⟩ | ⟨f, args, hr, hf⟩
  ·rcases hr with hr | ⟨hr, rfl⟩
   ·rw [hr]; exact hK _ _ hf
   ·rw [hr]; exact hK _ _ hf
  ·rw [hr]
   refine Calls.mono hf fun e w' he => ?_
   cases e with
   | returned v => exact hK _ _ he
   | panicked c => exact he.elim
   | outgrown => exact he.elim
 ·rw [if_neg (by simp [hw])]
  exact hK _ _ hf
theorem list_ok {ops : Array Oper} {Q : Exit → Act → World → Prop} {K : Tm → Hp → Prop} : ∀ (l : List Oper) (l' : List AO) (t : Tm) (a : Act) (w : World) (ρ : Rho) (H : Hp), l.mapM (cOp P n ops) = some l' → AWl P l' K t H → RG ρ n t a → RH ρ H w0 w →
  (∀ ρ' t' H' a' w', Ext ρ ρ' → RG ρ' n t' a' → a'.defers = a.defers → RH ρ' H' w0 w' → K t' H' → Q .normal a' w') → wpList P ops Q l a w
 | [], l', t, a, w, ρ, H, hm, hs, hg, h, hQ => by
  simp at hm
  subst hm
  exact hQ ρ t H a w (Ext.refl _) hg rfl h hs
 | o :: l, l', t, a, w, ρ, H, hm, hs, hg, h, hQ => by
  simp only [List.mapM_cons, Option.bind_eq_bind, Option.pure_def, Option.bind_eq_some_iff] at hm
  obtain ⟨o', ho', ls, hls, he⟩ := hm
  injection he with he
  subst he
  have hd := (cOp_spec ho').2.2.1
  refine (step_out ho' hs hg h).wp fun v w' hf => ?_
  obtain ⟨ρ', u, H', e1, e2, e3, e4⟩ := hf
  exact list_ok l ls _ _ _ ρ' H' hls e4 ((hg.ext e1).put hd e2) e3 fun ρ2 t2 H2 a2 w2 x1 x2 x3 x4 x5 => hQ ρ2 t2 H2 a2 w2 (e1.trans x1) x2 (x3.trans put_defers) x4 x5
end
inductive IP where
 | done
 | stop
 | quiet (i : Nat) (rest : IP)
 | br (i : Nat) (cs : List Nat) (rest more : IP)
def inl (os : List AO) : IP → Option AP
 | .done => some .done
 | .stop => some .stop
 | .quiet i rest => match os[i]?, inl os rest with
  | some o, some r => some (.quiet o r)
  | _, _ => none
 | .br i cs rest more => match os[i]?, cs.mapM (os[·]?), inl os rest, inl os more with
  | some o, some l, some r, some m => some (.br o l r m)
  | _, _, _, _ => none
def oT : Opd → Option Nat
 | .s i => some i
 | .c _ => none
def AI.opds : AI → List Opd
 | .mov x | .box _ _ x | .load x | .loadA _ x | .nilck x | .un _ x | .conv _ x | .str x | .same x | .bytesS _ x | .fadr _ x | .ext _ x | .len _ x => [x]
 | .pick c a b => [c, a, b]
 | .alloc _ _ | .lenK _ => []
 | .build _ ps | .lit _ _ _ _ ps => ps.map (·.2.2)
 | .store _ x v | .bin _ _ x v | .eqA _ _ x v | .make _ _ _ x v | .iadr _ x v | .iadrA _ _ x v | .idxS x v | .idxA _ _ _ x v | .append _ _ _ x v | .appendZ _ _ _ _ x v | .copy _ x v | .minmax _ x v => [x, v]
 | .cut _ x l h | .cutS x l h | .cutA _ _ x l h => x :: (l.toList ++ h.toList)
 | .call _ xs | .mkFunc _ xs | .xcall _ xs => xs
 | .mkMap => []
 | .mapGet _ _ _ x k | .mapDel _ x k => [x, k]
 | .mapSet _ x k v => [x, k, v]
 | .callV x xs => x :: xs
def AO.reads (o : AO) : List Nat := o.i.opds.filterMap oT ++ (match o.g with | some (g, _) => [g] | none => [])
theorem aI_congr {i : AI} {g g' : Opd → Value} {H : Hp} (h : ∀ x ∈ i.opds, g x = g' x) : aI i g H = aI i g' H := by
 have opt : ∀ (l : Option Opd), (∀ x ∈ l.toList, g x = g' x) → l.map g = l.map g' := fun l hl => by
  cases l with
  | none => rfl
  | some x => simp only [Option.map_some]; rw [hl x (by simp)]
 have lst : ∀ (l : List (Nat × Nat × Opd)), (∀ x ∈ l.map (·.2.2), g x = g' x) → (l.map fun p => (p.1, p.2.1, g p.2.2)) = (l.map fun p => (p.1, p.2.1, g' p.2.2)) := fun l hl => List.map_congr_left fun p hp => by rw [hl p.2.2 (List.mem_map.2 ⟨p, hp, rfl⟩)]
 cases i <;> simp only [AI.opds, List.mem_cons, List.mem_append, List.not_mem_nil, or_false, forall_eq_or_imp, forall_eq] at h <;> simp only [aI]
 case build z ps => rw [lst ps h]
 case mkFunc f xs => rw [List.map_congr_left h]
 case lit e sz n z ps => rw [lst ps h]
 case cut sz x lo hi => rw [h.1, opt lo fun x hx => h.2 x (.inl hx), opt hi fun x hx => h.2 x (.inr hx)]
 case cutS x lo hi => rw [h.1, opt lo fun x hx => h.2 x (.inl hx), opt hi fun x hx => h.2 x (.inr hx)]
 case cutA n sz x lo hi => rw [h.1, opt lo fun x hx => h.2 x (.inl hx), opt hi fun x hx => h.2 x (.inr hx)]
 all_goals first
  | rfl
  | rw [h]
  | rw [h.1, h.2]
  | rw [h.1, h.2.1, h.2.2]
theorem aI_blind {i : AI} {g : Opd → Value} {H H' : Hp} {v : Value} (hq : quiet i = true) (hl : looks i = false) (h : aI i g H = some (v, H)) : aI i g H' = some (v, H') := by
 have e : ∀ {u : Value} {x : Value}, some (u, H) = some (x, H) → u = x := fun h => by injection h with h; injection h
 cases i <;> first
  | (cases hq; done)
  | (cases hl; done)
  | skip
 all_goals
  simp only [aI] at h ⊢
  revert h
  repeat' split
  all_goals first
   | (intro h; injection h with h; injection h with h1 h2; subst h1; rfl)
   | (intro h; cases h; done)
   | (intro h; obtain ⟨u, hu, he⟩ := Option.map_eq_some_iff.1 h; injection he with h1 h2; subst h1; exact Option.map_eq_some_iff.2 ⟨u, hu, rfl⟩)
def depsOf (ops : Array Oper) : List (List Nat) := ops.toList.map fun o => (o.after.toList.filter (Region.binds .any)).map (·.on)
def readyL (m : Nat) (deps : List (List Nat)) (A : List Nat) : List Nat := (List.range m).filter fun j => !A.contains j && (deps.getD j []).all (A.contains ·)
def alone (ops : Array Oper) (os : List AO) (deps : List (List Nat)) (j : Nat) (x : Nat) : Bool :=
 (List.range os.length).all fun k => match os[k]?, ops[k]? with
  | some ok, some op => (!(op.looksAt ops).contains x && !ok.reads.contains x) || (deps.getD k []).contains j
  | _, _ => false
def quietAt (ops : Array Oper) (os : List AO) (deps : List (List Nat)) (j : Nat) : Bool := match os[j]? with
 | some o => quiet o.i && (match o.dst with
  | some x => alone ops os deps j x
  | none => false)
 | none => false
def looksAt (os : List AO) (j : Nat) : Bool := match os[j]? with
 | some o => looks o.i
 | none => false
def mkP (ops : Array Oper) (os : List AO) (deps : List (List Nat)) : Nat → List Nat → IP
 | 0, _ => .stop
 | f + 1, A =>
  let r := readyL os.length deps A
  match r.find? (quietAt ops os deps) with
  | some i => .quiet i (mkP ops os deps f (i :: A))
  | none => if r.isEmpty = true then .done else r.foldr (fun i more => .br i (A.filter fun d => looksAt os d && !(deps.getD i []).contains d) (mkP ops os deps f (i :: A)) more) .stop
def okP (ops : Array Oper) (os : List AO) (deps : List (List Nat)) : Option (List Nat) → List Nat → IP → Bool
 | none, A, .done => (List.range os.length).all (A.contains ·)
 | none, A, .quiet i rest => decide (i < os.length) && !A.contains i && (deps.getD i []).all (A.contains ·) && quietAt ops os deps i && okP ops os deps none (i :: A) rest
 | mode, A, .br i cs rest more => decide (i < os.length) && !A.contains i && (deps.getD i []).all (A.contains ·) && (A.all fun d => !looksAt os d || (deps.getD i []).contains d || cs.contains d) && okP ops os deps none (i :: A) rest && okP ops os deps (some (i :: mode.getD [])) A more
 | some cov, A, .stop => (readyL os.length deps A).all (cov.contains ·)
 | _, _, _ => false
def okD (ops : Array Oper) (os : List AO) (deps : List (List Nat)) : Bool :=
 (List.range os.length).all fun j => (deps.getD j []).all (fun k => decide (k < j)) &&
  (List.range os.length).all fun k => match os[j]?, os[k]?, ops[j]? with
   | some oj, some ok, some op => match ok.dst with
    | some x => (j == k || !(oj.dst == some x)) && (j == k || (!(op.looksAt ops).contains x && !oj.reads.contains x) || (deps.getD j []).contains k || (deps.getD k []).contains j)
    | none => true
   | _, _, _ => false
def cDraw (P : Program) (n : Nat) (ops : Array Oper) : Option AP :=
 match ops.toList.mapM (cOp P n ops) with
 | some os => if okD ops os (depsOf ops) = true ∧ okP ops os (depsOf ops) none [] (mkP ops os (depsOf ops) (os.length + 1) []) = true then inl os (mkP ops os (depsOf ops) (os.length + 1) []) else none
 | none => none

section
variable {P : Program} {n : Nat} {w0 : World} {ops : Array Oper} {os : List AO}
theorem cI_sel {o : Oper} {i : AI} (h : cI P n o = some i) : ∀ cs b, o.op ≠ .select cs b := by
 intro cs b e
 unfold cI at h
 rw [e] at h
 cases h
theorem exec_same {op : Oper} {a a' : Act} (hsel : ∀ cs b, op.op ≠ .select cs b) (h : ∀ x ∈ op.looksAt ops, a.tmps[x]? = a'.tmps[x]?) : execOp a.eval op = execOp a'.eval op ∧ Region.wanted op (yielded ops a.tmps) = Region.wanted op (yielded ops a'.tmps) := by
 refine ⟨execOp_congr op hsel fun x hx => ?_, ?_⟩
 ·cases x with
  | tmp i =>
   have := h i (List.mem_append_left _ (List.mem_filterMap.2 ⟨.tmp i, by simpa using hx, rfl⟩))
   simp only [Act.eval, Array.getD_eq_getD_getElem?, this]
  | const v => rfl
  | global g => rfl
  | func f => rfl
 ·unfold Region.wanted
  cases hg : op.guard with
  | none => rfl
  | some q =>
   obtain ⟨j, want⟩ := q
   simp only
   have : yielded ops a.tmps j = yielded ops a'.tmps j := by
    unfold yielded
    cases hd : (ops[j]?).bind (·.dst) with
    | none => rfl
    | some x =>
     have := h x (List.mem_append_right _ (by simp [hg, hd]))
     simp only [Option.bind_some, this]
   rw [this]
theorem Outcome.same {op : Oper} {a a' : Act} {w : World} {F : Value → World → Prop} (h : execOp a.eval op = execOp a'.eval op ∧ Region.wanted op (yielded ops a.tmps) = Region.wanted op (yielded ops a'.tmps)) (ho : Outcome P ops op a' w F) : Outcome P ops op a w F := by
 unfold Outcome
 rw [h.1, h.2]
 exact ho
structure Inv (n : Nat) (ops : Array Oper) (os : List AO) (deps : List (List Nat)) (A : List Nat) (L : Array Bool) (t : Tm) (H : Hp) (a b : Act) (ρ : Rho) : Prop where
 listed : ∀ j, j < os.length → L.getD j true = true → j ∈ A
 size : L.size = os.length
 asz : a.tmps.size = n
 rg : RG ρ n t b
 same : ∀ x, (∀ d o, d ∈ A → L.getD d true = false → os[d]? = some o → o.dst ≠ some x) → a.tmps[x]? = b.tmps[x]?
 held : ∀ d o, d ∈ A → L.getD d true = false → os[d]? = some o → quiet o.i = true ∧ aHeld o t H ∧ ∀ x, o.dst = some x → alone ops os deps d x = true
 down : ∀ d, d ∈ A → ∀ k ∈ deps.getD d [], k ∈ A
theorem okD_spec {deps : List (List Nat)} (h : okD ops os deps = true) {j k : Nat} {oj ok : AO} {op : Oper} {x : Nat} (hj : os[j]? = some oj) (hk : os[k]? = some ok) (hp : ops[j]? = some op) (hx : ok.dst = some x) :
  (j = k ∨ oj.dst ≠ some x) ∧ (x ∈ op.looksAt ops ∨ x ∈ oj.reads → j = k ∨ k ∈ deps.getD j [] ∨ j ∈ deps.getD k []) := by
 unfold okD at h
 have h1 := List.all_eq_true.1 h j (List.mem_range.2 (List.getElem?_eq_some_iff.1 hj).1)
 simp only [Bool.and_eq_true] at h1
 have h2 := List.all_eq_true.1 h1.2 k (List.mem_range.2 (List.getElem?_eq_some_iff.1 hk).1)
 simp only [hj, hk, hp, hx, Bool.and_eq_true, Bool.or_eq_true, Bool.not_eq_true', beq_iff_eq, beq_eq_false_iff_ne, List.contains_eq_mem, decide_eq_false_iff_not, decide_eq_true_eq] at h2
 refine ⟨h2.1, fun hr => ?_⟩
 rcases h2.2 with ((a | ⟨a, b⟩) | a) | a
 ·exact .inl a
 ·rcases hr with hr | hr
  ·exact absurd hr a
  ·exact absurd hr b
 ·exact .inr (.inl a)
 ·exact .inr (.inr a)
theorem alone_spec {deps : List (List Nat)} {j x k : Nat} {ok : AO} {op : Oper} (h : alone ops os deps j x = true) (hk : os[k]? = some ok) (hp : ops[k]? = some op) (hr : x ∈ op.looksAt ops ∨ x ∈ ok.reads) : j ∈ deps.getD k [] := by
 unfold alone at h
 have h1 := List.all_eq_true.1 h k (List.mem_range.2 (List.getElem?_eq_some_iff.1 hk).1)
 simp only [hk, hp, Bool.and_eq_true, Bool.or_eq_true, Bool.not_eq_true', List.contains_eq_mem, decide_eq_false_iff_not, decide_eq_true_eq] at h1
 rcases h1 with ⟨a, b⟩ | a
 ·rcases hr with hr | hr
  ·exact absurd hr a
  ·exact absurd hr b
 ·exact a
theorem okD_lt {deps : List (List Nat)} (h : okD ops os deps = true) {j k : Nat} (hj : j < os.length) (hk : k ∈ deps.getD j []) : k < j := by
 unfold okD at h
 have h1 := List.all_eq_true.1 h j (List.mem_range.2 hj)
 simp only [Bool.and_eq_true] at h1
 have := List.all_eq_true.1 h1.1 k hk
 simpa using this
theorem reads_ev {o : AO} {t t' : Tm} (h : ∀ x ∈ o.reads, t x = t' x) : ∀ x ∈ o.i.opds, ev t x = ev t' x := fun x hx => by
 cases x with
 | s i => exact h i (List.mem_append_left _ (List.mem_filterMap.2 ⟨.s i, hx, rfl⟩))
 | c v => rfl
theorem aHeld_upd {o : AO} {t : Tm} {H H' : Hp} {d : Option Nat} {v : Value} (hq : quiet o.i = true) (hh : aHeld o t H) (hb : looks o.i = false ∨ H' = H) (hd : ∀ x, d = some x → o.dst ≠ some x ∧ x ∉ o.reads) : aHeld o (upd t d v) H' := by
 have ht : ∀ x, (x ∈ o.reads ∨ o.dst = some x) → upd t d v x = t x := fun x hx => by
  cases d with
  | none => rfl
  | some e =>
   simp only [upd]
   split
   ·rename_i he
    subst he
    obtain ⟨h1, h2⟩ := hd x rfl
    rcases hx with hx | hx
    ·exact absurd hx h2
    ·exact absurd hx h1
   ·rfl
 have hev : aI o.i (ev (upd t d v)) H = aI o.i (ev t) H := aI_congr (reads_ev fun x hx => ht x (.inl hx))
 have key : ∀ u, aI o.i (ev t) H = some (u, H) → aI o.i (ev (upd t d v)) H' = some (u, H') := fun u hu => by
  rcases hb with hb | hb
  ·exact aI_blind hq hb (by rw [hev]; exact hu)
  ·subst hb
   rw [hev]
   exact hu
 unfold aHeld at hh ⊢
 split
 ·rename_i hn
  rw [hn] at hh
  exact hh
 ·rename_i e he
  rw [he] at hh
  simp only at hh
  have hte := ht e (.inr he)
  split
  ·rename_i hg
   rw [hg] at hh
   rw [hte]
   exact key _ hh
  ·rename_i g want hg
   rw [hg] at hh
   obtain ⟨b, hb1, hb2⟩ := hh
   refine ⟨b, by rw [ht g (.inl (by simp [AO.reads, hg]))]; exact hb1, ?_⟩
   split at hb2
   ·rename_i hw
    rw [if_pos hw, hte]
    exact key _ hb2
   ·rename_i hw
    rw [if_neg hw, hte]
    exact hb2
theorem all_contains {l A : List Nat} (h : l.all (A.contains ·) = true) : ∀ k ∈ l, k ∈ A := fun k hk => by simpa using List.all_eq_true.1 h k hk
theorem filt_lt {p q : Nat → Bool} {i : Nat} : ∀ (l : List Nat), (∀ x, q x = true → p x = true) → i ∈ l → p i = true → q i = false → (l.filter q).length < (l.filter p).length
 | [], _, hi, _, _ => by cases hi
 | x :: l, hpq, hi, hp, hq => by
  have hle : ∀ l : List Nat, (l.filter q).length ≤ (l.filter p).length := fun l => by
   induction l with
   | nil => exact Nat.le_refl _
   | cons y l ih =>
    by_cases hy : q y = true
    ·rw [List.filter_cons_of_pos hy, List.filter_cons_of_pos (hpq y hy)]
     simpa using ih
    ·rw [List.filter_cons_of_neg hy]
     refine Nat.le_trans ih ?_
     by_cases hy2 : p y = true
     ·rw [List.filter_cons_of_pos hy2]; simp
     ·rw [List.filter_cons_of_neg hy2]; exact Nat.le_refl _
  rcases List.mem_cons.1 hi with rfl | hi
  ·rw [List.filter_cons_of_neg (by simp [hq]), List.filter_cons_of_pos hp]
   have := hle l
   simp
   omega
  ·have ih := filt_lt l hpq hi hp hq
   by_cases hy : q x = true
   ·rw [List.filter_cons_of_pos hy, List.filter_cons_of_pos (hpq x hy)]
    simpa using ih
   ·rw [List.filter_cons_of_neg hy]
    by_cases hy2 : p x = true
    ·rw [List.filter_cons_of_pos hy2]
     simp
     omega
    ·rw [List.filter_cons_of_neg hy2]
     exact ih
theorem put_get {a : Act} {d : Option Nat} {v : Value} {x : Nat} : (a.put d v).tmps[x]? = if d = some x then (if x < a.tmps.size then some v else none) else a.tmps[x]? := by
 cases d with
 | none => simp [Act.put]
 | some d =>
  simp only [Act.put, Option.some.injEq, Array.getElem?_setIfInBounds]
  split
  ·rename_i h; subst h; rfl
  ·rfl
end
end Go.Proofs.YtjmjkdelkaflmaaGreatDoor.Abs
