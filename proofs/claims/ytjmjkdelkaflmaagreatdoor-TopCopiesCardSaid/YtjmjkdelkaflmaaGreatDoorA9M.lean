/- An abstract machine for the program's text: maps. -/
import Derived.Test.YtjmjkdelkaflmaaGreatDoorXC
import Derived.MapKept
set_option linter.unusedVariables false
set_option linter.unusedSimpArgs false
namespace Go.Proofs.YtjmjkdelkaflmaaGreatDoor.Abs
open Go Go.RowKit Go.MapKept
def keyT (P : Program) (K : TypeId) : Option (Option IntKind) :=
 match P.underlying K with
 | some .string => some none
 | some (.int k) => some (some k)
 | _ => none
def keyD : Option IntKind → TypeDesc
 | none => .string
 | some k => .int k
theorem keyT_spec {P : Program} {K : TypeId} {kd : Option IntKind} (h : keyT P K = some kd) : P.underlying K = some (keyD kd) := by
 unfold keyT at h
 split at h
 ·rename_i hu; injection h with h; subst h; exact hu
 ·rename_i k hu; injection h with h; subst h; exact hu
 ·cases h
theorem isKey_spec {kd : Option IntKind} {k : Value} (h : isKey kd k = true) : IsKey (keyD kd) k := by
 unfold isKey at h
 split at h
 ·trivial
 ·rename_i q k' n
  exact of_decide_eq_true (p := k' = q) h
 ·cases h
theorem keyEq_now {kd : Option IntKind} {a b : Value} {r : Bool} (h : keyEq kd a b = some r) : Instr.sameNow (keyD kd) a b = some r := by
 unfold keyEq at h
 split at h
 ·exact h
 ·rename_i q k a k' b
  split at h
  ·rename_i hc
   obtain ⟨rfl, rfl⟩ := hc
   simp only [keyD, Instr.sameNow, if_true]
   exact h
  ·cases h
 ·cases h
section
variable {P : Program} {o : Oper} {a : Act} {n : Nat} {t : Nat → Value} {w w0 : World} {ρ : Rho} {H : Hp}
theorem pair' {α β : Type} {x y : α} {u v : β} (h : some (x, u) = some (y, v)) : x = y ∧ u = v := by
 injection h with h
 injection h with h1 h2
 exact ⟨h1, h2⟩
theorem find_rel {kd : Option IntKind} {k : Value} : ∀ {c : List (Value × Value)} {es : List MapEntry} {i : Nat} {r : Option (Nat × Value)}, Ent2 ρ c es → mpFind kd k c i = some r →
  (r = none ∧ Instr.findNow (keyD kd) k es i = some none) ∨ ∃ j v v' key born, r = some (i + j, v) ∧ Instr.findNow (keyD kd) k es i = some (some (i + j, v')) ∧ RC ρ v v' ∧ c[j]? = some (key, v) ∧ es[j]? = some ⟨key, v', born⟩ ∧ keyEq kd k key = some true
 | [], [], i, r, .nil, h => by
  simp only [mpFind] at h
  injection h with h
  exact .inl ⟨h.symm, rfl⟩
 | (key, v) :: c, ⟨_, v', born⟩ :: es, i, r, .cons hr ht, h => by
  simp only [mpFind] at h
  split at h
  ·rename_i hk
   injection h with h
   refine .inr ⟨0, v, v', key, born, h.symm, ?_, hr, rfl, rfl, hk⟩
   simp only [Instr.findNow, keyEq_now hk]
   rfl
  ·rename_i hk
   rcases find_rel ht h with ⟨h1, h2⟩ | ⟨j, u, u', key', born', h1, h2, h3, h4, h5, h6⟩
   ·exact .inl ⟨h1, by simp only [Instr.findNow, keyEq_now hk]; exact h2⟩
   ·refine .inr ⟨j + 1, u, u', key', born', ?_, ?_, h3, h4, h5, h6⟩
    ·rw [h1, show i + (j + 1) = i + 1 + j by omega]
    ·simp only [Instr.findNow, keyEq_now hk]
     rw [h2, show i + (j + 1) = i + 1 + j by omega]
  ·cases h
theorem rv_key {kd : Option IntKind} {u v : Value} (hk : isKey kd u = true) (h : RV ρ u v) : v = u := by
 unfold isKey at hk
 split at hk
 ·cases h with | one h => cases h with | one h => cases h; rfl
 ·cases h with | one h => cases h with | one h => cases h; rfl
 ·cases hk
theorem mp_rel (h : RH ρ H w0 w) {u v : Value} {c : List (Value × Value)} (hm : H.mp u = some c) (hv : RV ρ u v) :
  (u = .map none ∧ v = .map none ∧ c = []) ∨ ∃ b g l es clock, u = .map (some b) ∧ v = .map (some g) ∧ H.m b = some ⟨true, .mp c, []⟩ ∧ ρ b = some l ∧ l.a = ⟨g, 0, none⟩ ∧ w.heap[g]? = some (.map es clock) ∧ Ent2 ρ c es.toList := by
 unfold Hp.mp at hm
 split at hm
 ·injection hm with hm
  cases hv with | one hv => cases hv with | one hv => cases hv; exact .inl ⟨rfl, rfl, hm.symm⟩
 ·rename_i b
  split at hm
  ·rename_i c' hb
   injection hm with hm
   subst hm
   cases hv with | one hv => cases hv with | one hv => cases hv with
    | map _ g l hl hg =>
     obtain ⟨l', hl', _, ho⟩ := h.cells b _ hb
     rw [hl] at hl'
     injection hl' with hl'
     subst hl'
     obtain ⟨_, g', es, clock, h1, h2, h3, h4⟩ := (ho rfl).mp rfl
     rw [hg] at h1
     injection h1 with h1
     subst h1
     exact .inr ⟨b, g, l, es, clock, rfl, rfl, hb, hl, hg, h3, h4⟩
  ·cases hm
 ·cases hm
theorem ok_mkMap {T : TypeId} (ho : o.op = .makeMap T none) (h : RH ρ H w0 w) : Ok P o a w ρ (.map (some H.nx)) (H.push ⟨true, .mp [], []⟩) w0 := by
 obtain ⟨ρ', he, hn, hR⟩ := h.pushM [] #[] 0 .nil
 refine ⟨ρ', .map (some w.heap.size), _, .inl ?_, he, .one (.one (.map _ _ _ hn rfl)), hR⟩
 simp only [execOp, ho, Option.map_none, Instr.makeMap, Sem.run_bind, Sem.run_pure, run_newObj_alloc, Result.andThen_ok]
theorem run_lookup_of {T K E : TypeId} {kd : Option IntKind} {k mv : Value} {okc : Bool} {z : Value} {es : Array MapEntry} {r : Option (Nat × Value)} (hu : P.underlying T = some (.map K E)) (hK : P.underlying K = some (keyD kd)) (hIs : IsKey (keyD kd) k) (hz : (P.info? E).bind (·.zero) = some z)
  (hes : (mv = .map none ∧ es = #[]) ∨ ∃ g clock, mv = .map (some g) ∧ w.heap[g]? = some (.map es clock)) (hf : Instr.findNow (keyD kd) k es.toList 0 = some r) :
  (Instr.lookup T mv k okc).run P w = .ok (match r with | some (_, v) => if okc = true then .tuple #[v, .bool true] else v | none => if okc = true then .tuple #[z, .bool false] else z) w := by
 have h1 := run_checkKey (w := w) hK hIs es.isEmpty 9999
 have h2 := run_findKey (w := w) hK hf
 rcases hes with ⟨rfl, rfl⟩ | ⟨g, clock, rfl, hg⟩
 ·cases r with
  | none => simp only [Instr.lookup, Sem.run_bind, run_underlying hu, Result.andThen_ok, Sem.run_pure, h1, h2, run_zero hz]
  | some p => simp only [Instr.lookup, Sem.run_bind, run_underlying hu, Result.andThen_ok, Sem.run_pure, h1, h2]
 ·cases r with
  | none => simp only [Instr.lookup, Sem.run_bind, run_underlying hu, Go.MapKept.run_getObj_map hg, Result.andThen_ok, Sem.run_pure, h1, h2, run_zero hz]
  | some p => simp only [Instr.lookup, Sem.run_bind, run_underlying hu, Go.MapKept.run_getObj_map hg, Result.andThen_ok, Sem.run_pure, h1, h2]
theorem ok_mapGet {T K E : TypeId} {x k : Operand} {x' k' : Opd} {kd : Option IntKind} {z : Value} {okc : Bool} {v : Value} {H' : Hp} (ho : o.op = .lookup T x k okc) (hu : P.underlying T = some (.map K E)) (hK : keyT P K = some kd) (hz : (P.info? E).bind (·.zero) = some z) (hzk : okC z = true) (hx : cO n x = some x') (hk : cO n k = some k')
  (hv : aI (.mapGet kd z okc x' k') (ev t) H = some (v, H')) (hg : RG ρ n t a) (h : RH ρ H w0 w) : Ok P o a w ρ v H' w0 := by
 have hz2 : isTup z = false := by cases z <;> simp [isTup]; simp [okC] at hzk
 simp only [aI, hz2, Bool.false_eq_true, if_false] at hv
 split at hv
 ·rename_i c hm
  split at hv
  ·rename_i hik
   have hkv := rv_key hik (ev_rel hg hk)
   have hKu := keyT_spec hK
   have hIs := isKey_spec hik
   obtain ⟨es, hE, hes⟩ : ∃ es : Array MapEntry, Ent2 ρ c es.toList ∧ ((a.eval x = .map none ∧ es = #[]) ∨ ∃ g clock, a.eval x = .map (some g) ∧ w.heap[g]? = some (.map es clock)) := by
    rcases mp_rel h hm (ev_rel hg hx) with ⟨_, h2, rfl⟩ | ⟨b, g, l, es, clock, _, h2, _, _, _, h3, h4⟩
    ·exact ⟨#[], .nil, .inl ⟨h2, rfl⟩⟩
    ·exact ⟨es, h4, .inr ⟨g, clock, h2, h3⟩⟩
   have key : ∃ v', (Instr.lookup T (a.eval x) (a.eval k) okc).run P w = .ok v' w ∧ RV ρ v v' ∧ H' = H := by
    rw [hkv]
    split at hv
    ·rename_i i u hf
     obtain ⟨rfl, rfl⟩ := pair' hv
     rcases find_rel hE hf with ⟨h1, _⟩ | ⟨j, u1, u', key, born, h1, h2, h3, _⟩
     ·cases h1
     ·injection h1 with h1
      injection h1 with h1a h1b
      subst h1b
      refine ⟨_, run_lookup_of hu hKu hIs hz hes h2, ?_, rfl⟩
      cases okc
      ·exact .one (.one h3)
      ·exact .tuple (.cons (.one h3) (.cons (.one (.bool true)) .nil))
    ·rename_i hf
     obtain ⟨rfl, rfl⟩ := pair' hv
     rcases find_rel hE hf with ⟨_, h2⟩ | ⟨j, u1, u', key, born, h1, _⟩
     ·refine ⟨_, run_lookup_of hu hKu hIs hz hes h2, ?_, rfl⟩
      cases okc
      ·exact .one (.one (okC_rel hzk ρ))
      ·exact .tuple (.cons (.one (okC_rel hzk ρ)) (.cons (.one (.bool false)) .nil))
     ·cases h1
    ·cases hv
   obtain ⟨v', h1, h2, rfl⟩ := key
   refine ⟨ρ, v', w, .inl ?_, Ext.refl _, h2, h⟩
   simp only [execOp, ho, Sem.run_bind, h1, Result.andThen_ok, Sem.run_pure]
  ·cases hv
 ·cases hv
theorem Ent2.snoc {c : List (Value × Value)} {es : List MapEntry} (h : Ent2 ρ c es) {k v v' : Value} {born : Nat} (hv : RC ρ v v') : Ent2 ρ (c ++ [(k, v)]) (es ++ [⟨k, v', born⟩]) := by
 induction h with
 | nil => exact .cons hv .nil
 | cons h _ ih => exact .cons h ih
theorem Ent2.erase {c : List (Value × Value)} {es : List MapEntry} (h : Ent2 ρ c es) (i : Nat) : Ent2 ρ (c.eraseIdx i) (es.eraseIdx i) := by
 induction h generalizing i with
 | nil => exact .nil
 | cons h ht ih =>
  cases i with
  | zero => exact ht
  | succ i => exact .cons h (ih i)
theorem Ent2.modify {c : List (Value × Value)} {es : List MapEntry} (h : Ent2 ρ c es) {k v v' : Value} (hv : RC ρ v v') (i : Nat) : Ent2 ρ (c.modify i fun _ => (k, v)) (es.modify i fun e => { e with key := k, val := v' }) := by
 induction h generalizing i with
 | nil => cases i <;> exact .nil
 | cons h ht ih =>
  cases i with
  | zero => exact .cons hv ht
  | succ i => exact .cons h (ih i)
theorem Ent2.length {c : List (Value × Value)} {es : List MapEntry} (h : Ent2 ρ c es) : c.length = es.length := by
 induction h with
 | nil => rfl
 | cons _ _ ih => simp [ih]
theorem same_key {kd : Option IntKind} {k key : Value} (h : keyEq kd k key = some true) : key = k ∧ Instr.sameBits 10000 key k = true := by
 unfold keyEq at h
 split at h
 ·rename_i a b
  injection h with h
  have e := (bytes_beq a b).1 h
  subst e
  exact ⟨rfl, by simp only [Instr.sameBits]; exact h⟩
 ·rename_i q k1 a k2 b
  split at h
  ·rename_i hc
   obtain ⟨rfl, rfl⟩ := hc
   injection h with h
   have e : a = b := by simpa using h
   subst e
   exact ⟨rfl, by simp [Instr.sameBits]⟩
  ·cases h
 ·cases h
theorem rv_cell {u v : Value} (h1 : oneV u = true) (h : RV ρ u v) : RC ρ u v := by
 cases h with
 | one h => cases h with
  | one h => exact h
  | agg h => cases h1
 | tuple h => cases h1
theorem ok_mapSet {T K E : TypeId} {m k x : Operand} {m' k' x' : Opd} {kd : Option IntKind} {v : Value} {H' : Hp} (ho : o.op = .mapUpdate T m k x) (hu : P.underlying T = some (.map K E)) (hK : keyT P K = some kd) (hm : cO n m = some m') (hk : cO n k = some k') (hx : cO n x = some x')
  (hv : aI (.mapSet kd m' k' x') (ev t) H = some (v, H')) (hg : RG ρ n t a) (h : RH ρ H w0 w) : Ok P o a w ρ v H' w0 := by
 simp only [aI] at hv
 split at hv
 ·rename_i b hb
  split at hv
  ·rename_i c hmp
   split at hv
   ·rename_i hcnd
    obtain ⟨hik, hnt⟩ := hcnd
    have hkv := rv_key hik (ev_rel hg hk)
    have hKu := keyT_spec hK
    have hIs := isKey_spec hik
    have hmv := ev_rel hg hm
    rw [hb] at hmv
    have hxr : RC ρ (ev t x') (a.eval x) := rv_cell hnt (ev_rel hg hx)
    rcases mp_rel h hmp hmv with ⟨h1, _⟩ | ⟨b', g, l, es, clock, h1, h2, h3, h4, h5, h6, h7⟩
    ·cases h1
    ·injection h1 with h1
     injection h1 with h1
     subst h1
     have hck := run_checkKey (w := w) hKu hIs false 9999
     have key : ∃ es' clock' c', Ent2 ρ c' es'.toList ∧ (Instr.mapUpdate T (a.eval m) (a.eval k) (a.eval x)).run P w = .ok () { w with heap := w.heap.setIfInBounds g (.map es' clock') } ∧ v = undef ∧ H' = H.set b ⟨true, .mp c', []⟩ := by
      rw [hkv, h2]
      split at hv
      ·rename_i i u hf
       obtain ⟨rfl, rfl⟩ := pair' hv
       rcases find_rel h7 hf with ⟨e1, _⟩ | ⟨j, u1, u', key, born, e1, e2, e3, e4, e5, e6⟩
       ·cases e1
       ·injection e1 with e1
        injection e1 with e1a e1b
        rw [Nat.zero_add] at e1a e2
        subst e1a
        obtain ⟨rfl, hsb⟩ := same_key e6
        have hfk := run_findKey (w := w) hKu e2
        have hkey : ((es[i]?).map (·.key)).getD (ev t k') = ev t k' := by
         rw [← Array.getElem?_toList, e5]
         rfl
        refine ⟨es.modify i fun e => { e with key := ev t k', val := a.eval x }, clock, _, ?_, ?_, rfl, rfl⟩
        ·rw [Array.toList_modify]
         exact h7.modify hxr i
        ·simp only [Instr.mapUpdate, Sem.run_bind, run_underlying hu, Go.MapKept.run_getObj_map h6, Result.andThen_ok, hck, hfk, hkey, Instr.keyThatStays, hsb, if_true, Sem.run_pure, Go.MapKept.run_setObj_map _ h6]
      ·rename_i hf
       obtain ⟨rfl, rfl⟩ := pair' hv
       rcases find_rel h7 hf with ⟨_, e2⟩ | ⟨j, u1, u', key, born, e1, _⟩
       ·have hfk := run_findKey (w := w) hKu e2
        refine ⟨es.push { key := ev t k', val := a.eval x, born := clock }, clock + 1, _, ?_, ?_, rfl, rfl⟩
        ·rw [Array.toList_push]
         exact h7.snoc hxr
        ·simp only [Instr.mapUpdate, Sem.run_bind, run_underlying hu, Go.MapKept.run_getObj_map h6, Result.andThen_ok, hck, hfk, Sem.run_pure, Go.MapKept.run_setObj_map _ h6]
       ·cases e1
      ·cases hv
     obtain ⟨es', clock', c', k1, k2, rfl, rfl⟩ := key
     refine ⟨ρ, undef, _, .inr ⟨?_, rfl⟩, Ext.refl _, rv_undef ρ, h.putM h3 h4 h5 es' clock' k1⟩
     simp only [execOp, ho, Sem.run_bind, k2, Result.andThen_ok, Sem.run_pure]
   ·cases hv
  ·cases hv
 ·cases hv
theorem ok_mapDel {ca : Call} {T T2 K E : TypeId} {m k : Operand} {m' k' : Opd} {kd : Option IntKind} {v : Value} {H' : Hp} (ho : o.op = .call ca) (hc1 : ca.callee = .builtin .delete) (hc2 : ca.args = #[m, k]) (hc3 : ca.argTypes = #[T, T2]) (hu : P.underlying T = some (.map K E)) (hK : keyT P K = some kd) (hm : cO n m = some m') (hk : cO n k = some k')
  (hv : aI (.mapDel kd m' k') (ev t) H = some (v, H')) (hg : RG ρ n t a) (h : RH ρ H w0 w) : Ok P o a w ρ v H' w0 := by
 simp only [aI] at hv
 split at hv
 ·rename_i b hb
  split at hv
  ·rename_i c hmp
   split at hv
   ·rename_i hik
    have hkv := rv_key hik (ev_rel hg hk)
    have hKu := keyT_spec hK
    have hIs := isKey_spec hik
    have hmv := ev_rel hg hm
    rw [hb] at hmv
    rcases mp_rel h hmp hmv with ⟨h1, _⟩ | ⟨b', g, l, es, clock, h1, h2, h3, h4, h5, h6, h7⟩
    ·cases h1
    ·injection h1 with h1
     injection h1 with h1
     subst h1
     have hck := run_checkKey (w := w) hKu hIs es.isEmpty 9999
     have key : ∃ es' clock' c', Ent2 ρ c' es'.toList ∧ (Builtin.delete_ #[T, T2] o.type #[a.eval m, a.eval k]).run P w = .ok (.tuple #[]) { w with heap := w.heap.setIfInBounds g (.map es' clock') } ∧ v = .tuple #[] ∧ H' = H.set b ⟨true, .mp c', []⟩ := by
      rw [hkv, h2]
      split at hv
      ·rename_i i u hf
       obtain ⟨rfl, rfl⟩ := pair' hv
       rcases find_rel h7 hf with ⟨e1, _⟩ | ⟨j, u1, u', key, born, e1, e2, e3, e4, e5, e6⟩
       ·cases e1
       ·injection e1 with e1
        injection e1 with e1a e1b
        rw [Nat.zero_add] at e1a e2
        subst e1a
        have hfk := run_findKey (w := w) hKu e2
        have hlt : i < es.size := by
         have := (List.getElem?_eq_some_iff.1 e5).1
         simpa using this
        refine ⟨es.eraseIdxIfInBounds i, clock, _, ?_, ?_, rfl, rfl⟩
        ·rw [show (es.eraseIdxIfInBounds i).toList = es.toList.eraseIdx i by simp [Array.eraseIdxIfInBounds, hlt]]
         exact h7.erase i
        ·simp [Builtin.delete_, run_underlying hu, Go.MapKept.run_getObj_map h6, Result.andThen_ok, hck, hfk, Go.MapKept.run_setObj_map _ h6]
      ·rename_i hf
       obtain ⟨rfl, rfl⟩ := pair' hv
       rcases find_rel h7 hf with ⟨_, e2⟩ | ⟨j, u1, u', key, born, e1, _⟩
       ·have hfk := run_findKey (w := w) hKu e2
        refine ⟨es, clock, c, h7, ?_, rfl, ?_⟩
        ·simp [Builtin.delete_, run_underlying hu, Go.MapKept.run_getObj_map h6, Result.andThen_ok, hck, hfk, Go.MapKept.run_setObj_map _ h6]
        ·obtain ⟨hm1, hnx⟩ := H
         simp only [Hp.set]
         congr 1
         funext j
         split
         ·rename_i hj; subst hj; exact h3
         ·rfl
       ·cases e1
      ·cases hv
     obtain ⟨es', clock', c', k1, k2, rfl, rfl⟩ := key
     refine ⟨ρ, .tuple #[], _, .inl ?_, Ext.refl _, .tuple .nil, h.putM h3 h4 h5 es' clock' k1⟩
     simp only [execOp, ho, resolve, hc1, hc2, hc3, Sem.run_bind, Sem.run_pure, Result.andThen_ok, invoke, builtin, List.map_toArray, List.map_cons, List.map_nil, k2]
   ·cases hv
  ·cases hv
 ·cases hv
theorem ptr_rel {u v : Value} (hp : isPtr u = true) (h : RV ρ u v) : ∃ b o l, u = .pointer (some ⟨b, o, none⟩) ∧ v = .pointer (some (l.a.add o)) ∧ ρ b = some l := by
 unfold isPtr at hp
 split at hp
 ·cases h with | one h => cases h with | one h => cases h with | ptr _ _ l h => exact ⟨_, _, l, rfl, rfl, h⟩
 ·cases hp
theorem ptrs_rel : ∀ {us vs : List Value}, us.all isPtr = true → All2 (RV ρ) us vs → PtrL ρ us vs
 | _, _, _, .nil => .nil
 | u :: us, v :: vs, hp, .cons h t => by
  simp only [List.all_cons, Bool.and_eq_true] at hp
  obtain ⟨b, o, l, rfl, rfl, hl⟩ := ptr_rel hp.1 h
  exact .cons b o l hl (ptrs_rel hp.2 t)
theorem PtrL.rv {cs cs' : List Value} (h : PtrL ρ cs cs') : All2 (RV ρ) cs cs' := by
 induction h with
 | nil => exact .nil
 | cons b o l h _ ih => exact .cons (.one (.one (.ptr b o l h))) ih
theorem opds_rel {xs : List Operand} {xs' : List Opd} (h : xs.mapM (cO n) = some xs') (hg : RG ρ n t a) : All2 (RV ρ) (xs'.map (ev t)) (xs.map a.eval) := by
 induction xs generalizing xs' with
 | nil => simp at h; subst h; exact .nil
 | cons x xs ih =>
  simp only [List.mapM_cons, Option.bind_eq_bind, Option.pure_def, Option.bind_eq_some_iff] at h
  obtain ⟨y, hy, ys, hys, he⟩ := h
  injection he with he
  subst he
  exact .cons (ev_rel hg hy) (ih hys)
theorem ok_mkFunc {f : FuncId} {first captured : Array Operand} {xs : List Opd} (ho : o.op = .makeFunc (.func f) first captured) (hf : first.toList = []) (hx : captured.toList.mapM (cO n) = some xs) (hp : (xs.map (ev t)).all isPtr = true) (hg : RG ρ n t a) (h : RH ρ H w0 w) : Ok P o a w ρ (.func (.func f) #[] (xs.map (ev t)).toArray) H w0 := by
 have hr := ptrs_rel hp (opds_rel hx hg)
 refine ⟨ρ, .func (.func f) #[] (captured.toList.map a.eval).toArray, w, .inl ?_, Ext.refl _, .one (.one (.func f hr)), h⟩
 have e0 : first = #[] := by
  apply Array.ext'
  exact hf
 have e1 : (captured.toList.map a.eval).toArray = captured.map a.eval := by
  apply Array.ext'
  simp
 rw [e1]
 simp [execOp, ho, Instr.makeFunc, e0]
end
end Go.Proofs.YtjmjkdelkaflmaaGreatDoor.Abs
