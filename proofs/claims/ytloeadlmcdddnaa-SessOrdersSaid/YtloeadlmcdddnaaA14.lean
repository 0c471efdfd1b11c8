/- An abstract machine for the program's text, part 14: whole texts, and calls of functions. -/
import Derived.Test.YtloeadlmcdddnaaA13
set_option linter.unusedVariables false
set_option linter.unusedSimpArgs false
namespace Go.Proofs.Ytloeadlmcdddnaa.Abs
open Go Go.RowKit
def cC (P : Program) (n : Nat) : Code → Option AC
  | .skip => some .skip
  | .region _ ops false => (ops.toList.mapM (cOp P n ops)).map .list
  | .region _ ops true => if P.follows .mixedOrders = true then (cDraw P n ops).map .plan else none
  | .seq x y => match cC P n x, cC P n y with
    | some x, some y => some (.seq x y)
    | _, _ => none
  | .cond c x y => match cO n c, cC P n x, cC P n y with
    | some c, some x, some y => some (.cond c x y)
    | _, _, _ => none
  | .block id x => (cC P n x).map (.block id)
  | .loop x => (cC P n x).map .loop
  | .exit id => some (.exit id)
  | .ret => some .ret
  | .label _ => some .skip
  | .scope x => cC P n x
  | _ => none
/-- A loop whose rounds are counted by a number that the world needn't tell. -/
theorem wp_loop_n {P : Program} {c : Code} {Q : Exit → Act → World → Prop} (I : Nat → Act → World → Prop) (round : ∀ n a w, I n a w → c.wp P (Exit.then (fun a' w' => ∃ m, m < n ∧ I m a' w') Q) a w) {n : Nat} {a : Act} {w : World} (h0 : I n a w) : (Code.loop c).wp P Q a w := by
  intro b k cs
  have key : ∀ n a w, I n a w → ∃ e a' w', Q e a' w' ∧ Arrives P (lone (b.at a (.code c :: .inLoop c :: k)) cs w) b k cs e a' w' := by
    intro n
    induction n using Nat.strongRecOn with
    | _ n ih =>
      intro a w hI
      obtain ⟨e, a1, w1, hq, harr⟩ := round n a w hI b (.inLoop c :: k) cs
      cases e with
      | normal =>
        obtain ⟨m, hlt, hm⟩ := hq
        obtain ⟨e2, a2, w2, hq2, harr2⟩ := ih m hlt a1 w1 hm
        exact ⟨e2, a2, w2, hq2, .of_steps (Steps.trans harr (.one step_inLoop)) harr2⟩
      | exit id => exact ⟨_, a1, w1, hq, .pass (x := .inLoop c) rfl (fun _ _ => .inl (by simp)) harr⟩
      | goto l => exact ⟨_, a1, w1, hq, .pass (x := .inLoop c) rfl (fun _ _ => .inl (by simp)) harr⟩
      | ret => exact ⟨_, a1, w1, hq, .pass (x := .inLoop c) rfl (fun _ _ => .inl (by simp)) harr⟩
      | panic ch => exact ⟨_, a1, w1, hq, .pass (x := .inLoop c) rfl (fun _ _ => .inl (by simp)) harr⟩
      | outgrown => exact ⟨_, a1, w1, hq, .pass (x := .inLoop c) rfl (fun _ _ => .inl (by simp)) harr⟩
  obtain ⟨e, a', w', hq, harr⟩ := key n a w h0
  exact ⟨e, a', w', hq, .of_steps (.one step_loop) harr⟩
/-- No text of this machine leaves by a goto. -/
def noG (Q : Exit → Tm → Hp → Prop) : Exit → Tm → Hp → Prop
  | .goto _, _, _ => False
  | e, t, H => Q e t H
theorem ACalls.mono {P : Program} {f : FuncId} {xs : List Value} {H : Hp} {K K' : Value → Hp → Prop} (h : ACalls P f xs H K) (hk : ∀ v H, K v H → K' v H) : ACalls P f xs H K' := by
  intro ρ w0 w ys h1 h2
  refine (h ρ w0 w ys h1 h2).mono fun e w' he => ?_
  cases e with
  | returned v =>
    obtain ⟨ρ', u, H', e1, e2, e3, e4⟩ := he
    exact ⟨ρ', u, H', e1, e2, e3, hk _ _ e4⟩
  | panicked c => exact he
  | outgrown => exact he
section
variable {P : Program} {t : Tm} {H : Hp}
theorem aRun_mono {i : AI} {g : Opd → Value} {K K' : Value → Hp → Prop} (hk : ∀ v H, K v H → K' v H) (h : aRun P i g H K) : aRun P i g H K' := by
  cases i
  case call f xs => exact ACalls.mono h hk
  all_goals
    obtain ⟨v, H', h1, h2⟩ := h
    exact ⟨v, H', h1, hk _ _ h2⟩
theorem aStep_mono {o : AO} {K K' : Tm → Hp → Prop} (hk : ∀ t H, K t H → K' t H) (h : aStep P o K t H) : aStep P o K' t H := by
  unfold aStep at h ⊢
  split
  · rename_i hg
    rw [hg] at h
    exact aRun_mono (fun v H => hk _ _) h
  · rename_i g want hg
    rw [hg] at h
    obtain ⟨b, h1, h2⟩ := h
    refine ⟨b, h1, ?_⟩
    split
    · rename_i hb
      rw [if_pos hb] at h2
      exact aRun_mono (fun v H => hk _ _) h2
    · rename_i hb
      rw [if_neg hb] at h2
      exact hk _ _ h2
theorem AWl_mono {K K' : Tm → Hp → Prop} (hk : ∀ t H, K t H → K' t H) : ∀ {os : List AO} {t : Tm} {H : Hp}, AWl P os K t H → AWl P os K' t H
  | [], _, _, h => hk _ _ h
  | o :: os, _, _, h => aStep_mono (fun t H h => AWl_mono hk h) h
theorem AWp_mono {K K' : Tm → Hp → Prop} (hk : ∀ t H, K t H → K' t H) : ∀ {p : AP} {t : Tm} {H : Hp}, AWp P p K t H → AWp P p K' t H
  | .done, _, _, h => hk _ _ h
  | .stop, _, _, _ => trivial
  | .quiet o rest, _, _, h => aStep_mono (fun t H h => AWp_mono hk h) h
  | .br o cs rest more, _, _, h => ⟨aStep_mono (fun t H h => ⟨h.1, AWp_mono hk h.2⟩) h.1, AWp_mono hk h.2⟩
theorem xThen_mono {n n' : Tm → Hp → Prop} {Q Q' : Exit → Tm → Hp → Prop} (hn : ∀ t H, n t H → n' t H) (hq : ∀ e t H, Q e t H → Q' e t H) : ∀ e t H, xThen n Q e t H → xThen n' Q' e t H := fun e t H h => by
  cases e <;> first
    | exact hn _ _ h
    | exact hq _ _ _ h
theorem xBlock_mono {id : Nat} {Q Q' : Exit → Tm → Hp → Prop} (hq : ∀ e t H, Q e t H → Q' e t H) : ∀ e t H, xBlock id Q e t H → xBlock id Q' e t H := fun e t H h => by
  cases e with
  | exit j =>
    simp only [xBlock] at h ⊢
    split
    · rename_i hj
      rw [if_pos hj] at h
      exact hq _ _ _ h
    · rename_i hj
      rw [if_neg hj] at h
      exact hq _ _ _ h
  | _ => exact hq _ _ _ h
theorem AW_mono : ∀ {c : AC} {Q Q' : Exit → Tm → Hp → Prop} {t : Tm} {H : Hp}, (∀ e t H, Q e t H → Q' e t H) → AW P c Q t H → AW P c Q' t H
  | .skip, _, _, _, _, hq, h => hq _ _ _ h
  | .ret, _, _, _, _, hq, h => hq _ _ _ h
  | .exit id, _, _, _, _, hq, h => hq _ _ _ h
  | .list os, _, _, _, _, hq, h => AWl_mono (hq _) h
  | .plan p, _, _, _, _, hq, h => AWp_mono (hq _) h
  | .seq x y, _, _, _, _, hq, h => AW_mono (c := x) (xThen_mono (fun t H h => AW_mono (c := y) hq h) hq) h
  | .cond c x y, _, _, _, _, hq, h => by
    obtain ⟨b, h1, h2⟩ := h
    refine ⟨b, h1, ?_⟩
    split
    · rename_i hb
      rw [if_pos hb] at h2
      exact AW_mono (c := x) hq h2
    · rename_i hb
      rw [if_neg hb] at h2
      exact AW_mono (c := y) hq h2
  | .block id x, _, _, _, _, hq, h => AW_mono (c := x) (xBlock_mono hq) h
  | .loop x, _, _, _, _, hq, h => by
    obtain ⟨I, μ, h0, hr⟩ := h
    exact ⟨I, μ, h0, fun t H hI => AW_mono (c := x) (xThen_mono (fun _ _ h => h) hq) (hr t H hI)⟩
end
theorem AW_noG {P : Program} : ∀ (c : AC) (Q : Exit → Tm → Hp → Prop) (t : Tm) (H : Hp), AW P c Q t H → AW P c (noG Q) t H := by
  intro c
  induction c with
  | skip => intro Q t H h; exact h
  | ret => intro Q t H h; exact h
  | exit id => intro Q t H h; exact h
  | list os => intro Q t H h; exact h
  | plan p => intro Q t H h; exact h
  | seq x y ihx ihy =>
    intro Q t H h
    refine AW_mono (c := x) (fun e t' H' he => ?_) (ihx _ t H h)
    cases e with
    | normal => exact ihy Q t' H' he
    | goto l => exact he.elim
    | exit id => exact he
    | ret => exact he
    | panic ch => exact he
    | outgrown => exact he
  | cond d x y ihx ihy =>
    intro Q t H h
    obtain ⟨b, hb, h⟩ := h
    refine ⟨b, hb, ?_⟩
    cases b with
    | true => exact ihx Q t H h
    | false => exact ihy Q t H h
  | block id x ih =>
    intro Q t H h
    refine AW_mono (c := x) (fun e t' H' he => ?_) (ih _ t H h)
    cases e with
    | normal => exact he
    | goto l => exact he.elim
    | exit id' =>
      simp only [noG, xBlock] at he ⊢
      split
      · rename_i hi; rw [if_pos hi] at he; exact he
      · rename_i hi; rw [if_neg hi] at he; exact he
    | ret => exact he
    | panic ch => exact he
    | outgrown => exact he
  | loop x ih =>
    intro Q t H h
    obtain ⟨I, μ, h0, hr⟩ := h
    refine ⟨I, μ, h0, fun t H hI => AW_mono (c := x) (fun e t' H' he => ?_) (ih _ t H (hr t H hI))⟩
    cases e with
    | normal => exact he
    | goto l => exact he.elim
    | exit id => exact he
    | ret => exact he
    | panic ch => exact he
    | outgrown => exact he
/-- What the machine's walk is asked for. -/
def Post (n : Nat) (w0 : World) (ρ : Rho) (D : List Deferred) (Q : Exit → Tm → Hp → Prop) : Exit → Act → World → Prop :=
  fun e a w => ∃ ρ' t H, Ext ρ ρ' ∧ RG ρ' n t a ∧ a.defers = D ∧ RH ρ' H w0 w ∧ Q e t H
theorem Post.mono {n : Nat} {w0 : World} {ρ ρ' : Rho} {D : List Deferred} {Q : Exit → Tm → Hp → Prop} (he : Ext ρ ρ') {e : Exit} {a : Act} {w : World} (h : Post n w0 ρ' D Q e a w) : Post n w0 ρ D Q e a w :=
  let ⟨ρ2, t, H, h1, h2⟩ := h
  ⟨ρ2, t, H, he.trans h1, h2⟩
theorem AW_ok {P : Program} {n : Nat} {w0 : World} : ∀ (c : Code) (c' : AC) (Q : Exit → Tm → Hp → Prop) (t : Tm) (H : Hp) (a : Act) (w : World) (ρ : Rho), cC P n c = some c' → AW P c' Q t H → RG ρ n t a → RH ρ H w0 w → c.wp P (Post n w0 ρ a.defers Q) a w := by
  intro c
  induction c with
  | skip =>
    intro c' Q t H a w ρ hc hs hg h
    injection hc with hc
    subst hc
    exact wp_skip ⟨ρ, t, H, Ext.refl _, hg, rfl, h, hs⟩
  | ret =>
    intro c' Q t H a w ρ hc hs hg h
    injection hc with hc
    subst hc
    exact wp_ret ⟨ρ, t, H, Ext.refl _, hg, rfl, h, hs⟩
  | exit id =>
    intro c' Q t H a w ρ hc hs hg h
    injection hc with hc
    subst hc
    exact wp_exit ⟨ρ, t, H, Ext.refl _, hg, rfl, h, hs⟩
  | region id ops draw =>
    intro c' Q t H a w ρ hc hs hg h
    cases draw with
    | false =>
      simp only [cC] at hc
      obtain ⟨os, hos, rfl⟩ := Option.map_eq_some_iff.1 hc
      exact wp_region_list (list_ok ops.toList os t a w ρ H hos hs hg h fun ρ' t' H' a' w' e1 e2 e3 e4 e5 => ⟨ρ', t', H', e1, e2, e3, e4, e5⟩)
    | true =>
      simp only [cC] at hc
      split at hc
      · rename_i hm
        obtain ⟨p, hp, rfl⟩ := Option.map_eq_some_iff.1 hc
        unfold cDraw at hp
        split at hp
        · rename_i os hos
          split at hp
          · rename_i hok
            obtain ⟨hD, hP⟩ := hok
            have hlen := (mapM_get hos).1
            have hsz : ops.size = os.length := by simpa using hlen
            have hw : RH ρ H w0 { w with drawn := w.drawn + 1 } := h.world (Below.refl _ _).drew
            refine wp_region_any hm (plan_ok (ρ0 := ρ) (D := a.defers) (K := Q .normal) hos hD (fun ρ' t' H' a' w' e1 e2 e3 e4 e5 => ⟨ρ', t', H', e1, e2, e3, e4, e5⟩) ops.size (Array.replicate ops.size false) [] _ p t H a a _ ρ ?_ hP hp hs hw (Ext.refl _) rfl ?_)
            · refine ⟨fun j hj hl => ?_, by simp [hsz], hg.size, hg, fun x _ => rfl, (fun d o hd => by cases hd), (fun d hd => by cases hd)⟩
              have : j < ops.size := by omega
              simp [Array.getD, this] at hl
            · refine Nat.le_trans (List.length_filter_le _ _) ?_
              simp [hsz]
          · cases hp
        · cases hp
      · cases hc
  | seq x y ihx ihy =>
    intro c' Q t H a w ρ hc hs hg h
    simp only [cC] at hc
    split at hc
    · rename_i x' y' hx hy
      injection hc with hc
      subst hc
      refine wp_seq (wp_mono (ihx x' _ t H a w ρ hx hs hg h) fun e a' w' hp => ?_)
      obtain ⟨ρ', t', H', e1, e2, e3, e4, e5⟩ := hp
      cases e with
      | normal =>
        have := ihy y' Q t' H' a' w' ρ' hy e5 e2 e4
        rw [e3] at this
        exact wp_mono this fun e a w hp => Post.mono e1 hp
      | exit id => exact ⟨ρ', t', H', e1, e2, e3, e4, e5⟩
      | goto l => exact ⟨ρ', t', H', e1, e2, e3, e4, e5⟩
      | ret => exact ⟨ρ', t', H', e1, e2, e3, e4, e5⟩
      | panic ch => exact ⟨ρ', t', H', e1, e2, e3, e4, e5⟩
      | outgrown => exact ⟨ρ', t', H', e1, e2, e3, e4, e5⟩
    · cases hc
  | cond c x y ihx ihy =>
    intro c' Q t H a w ρ hc hs hg h
    simp only [cC] at hc
    split at hc
    · rename_i d x' y' hd hx hy
      injection hc with hc
      subst hc
      obtain ⟨b, hb, hs⟩ := hs
      have hv := rv_bool (hb ▸ ev_rel hg hd)
      cases b with
      | true => exact wp_cond hv (ihx x' Q t H a w ρ hx hs hg h)
      | false => exact wp_cond hv (ihy y' Q t H a w ρ hy hs hg h)
    · cases hc
  | block id x ih =>
    intro c' Q t H a w ρ hc hs hg h
    simp only [cC] at hc
    obtain ⟨x', hx, rfl⟩ := Option.map_eq_some_iff.1 hc
    refine wp_block (wp_mono (ih x' _ t H a w ρ hx hs hg h) fun e a' w' hp => ?_)
    obtain ⟨ρ', t', H', e1, e2, e3, e4, e5⟩ := hp
    cases e with
    | exit id' =>
      simp only [xBlock] at e5
      simp only [Exit.inBlock]
      split
      · rename_i hi
        rw [if_pos hi] at e5
        exact ⟨ρ', t', H', e1, e2, e3, e4, e5⟩
      · rename_i hi
        rw [if_neg hi] at e5
        exact ⟨ρ', t', H', e1, e2, e3, e4, e5⟩
    | normal => exact ⟨ρ', t', H', e1, e2, e3, e4, e5⟩
    | goto l => exact ⟨ρ', t', H', e1, e2, e3, e4, e5⟩
    | ret => exact ⟨ρ', t', H', e1, e2, e3, e4, e5⟩
    | panic ch => exact ⟨ρ', t', H', e1, e2, e3, e4, e5⟩
    | outgrown => exact ⟨ρ', t', H', e1, e2, e3, e4, e5⟩
  | loop x ih =>
    intro c' Q t H a w ρ hc hs hg h
    simp only [cC] at hc
    obtain ⟨x', hx, rfl⟩ := Option.map_eq_some_iff.1 hc
    obtain ⟨I, μ, h0, hround⟩ := hs
    refine wp_loop_n (fun m a' w' => ∃ ρ' t' H', Ext ρ ρ' ∧ RG ρ' n t' a' ∧ a'.defers = a.defers ∧ RH ρ' H' w0 w' ∧ I t' H' ∧ μ t' H' = m) (fun m a' w' hI => ?_) (n := μ t H) ⟨ρ, t, H, Ext.refl _, hg, rfl, h, h0, rfl⟩
    obtain ⟨ρ', t', H', e1, e2, e3, e4, e5, rfl⟩ := hI
    have := ih x' _ t' H' a' w' ρ' hx (hround t' H' e5) e2 e4
    rw [e3] at this
    refine wp_mono this fun e a2 w2 hp => ?_
    obtain ⟨ρ2, t2, H2, f1, f2, f3, f4, f5⟩ := hp
    cases e with
    | normal => exact ⟨μ t2 H2, f5.2, ρ2, t2, H2, e1.trans f1, f2, f3, f4, f5.1, rfl⟩
    | exit id => exact ⟨ρ2, t2, H2, e1.trans f1, f2, f3, f4, f5⟩
    | goto l => exact ⟨ρ2, t2, H2, e1.trans f1, f2, f3, f4, f5⟩
    | ret => exact ⟨ρ2, t2, H2, e1.trans f1, f2, f3, f4, f5⟩
    | panic ch => exact ⟨ρ2, t2, H2, e1.trans f1, f2, f3, f4, f5⟩
    | outgrown => exact ⟨ρ2, t2, H2, e1.trans f1, f2, f3, f4, f5⟩
  | label l =>
    intro c' Q t H a w ρ hc hs hg h
    injection hc with hc
    subst hc
    exact wp_label ⟨ρ, t, H, Ext.refl _, hg, rfl, h, hs⟩
  | scope x ih =>
    intro c' Q t H a w ρ hc hs hg h
    simp only [cC] at hc
    refine wp_scope_straight (wp_mono (ih c' (noG Q) t H a w ρ hc (AW_noG c' Q t H hs) hg h) fun e a' w' hp => ?_)
    obtain ⟨ρ', t', H', e1, e2, e3, e4, e5⟩ := hp
    cases e with
    | normal => exact ⟨ρ', t', H', e1, e2, e3, e4, e5⟩
    | exit id => exact ⟨ρ', t', H', e1, e2, e3, e4, e5⟩
    | goto l => exact e5.elim
    | ret => exact ⟨ρ', t', H', e1, e2, e3, e4, e5⟩
    | panic ch => exact ⟨ρ', t', H', e1, e2, e3, e4, e5⟩
    | outgrown => exact ⟨ρ', t', H', e1, e2, e3, e4, e5⟩
  | _ => intro c' Q t H a w ρ hc; cases hc
/-! results -/
inductive AR where
  | tmp (x : Nat)
  | cell (x : Nat)
  | cellA (m x : Nat)
def aRes (t : Tm) (H : Hp) : AR → Option Value
  | .tmp x => some (t x)
  | .cell x => match t x with
    | .pointer (some ⟨b, o, none⟩) => match H.get b o 1 with
      | some [v] => some v
      | _ => none
    | _ => none
  | .cellA m x => match t x with
    | .pointer (some ⟨b, o, none⟩) => (H.get b o m).map fun xs => .agg xs.toArray
    | _ => none
def aResL (t : Tm) (H : Hp) : List AR → Option (List Value)
  | [] => some []
  | r :: rs => match aRes t H r, aResL t H rs with
    | some v, some vs => some (v :: vs)
    | _, _ => none
def aOut (t : Tm) (H : Hp) (rs : List AR) : Option Value :=
  match aResL t H rs with
  | some [v] => some v
  | some vs => if vs.all notTup = true then some (.tuple vs.toArray) else none
  | none => none
def cR (P : Program) (n : Nat) : ResultVar → Option AR
  | .tmp x => if x < n then some (.tmp x) else none
  | .cell x T => if x < n then match isRowT P T with
    | some false => some (.cell x)
    | some true => (sizeT P T).map fun m => .cellA m x
    | none => none
    else none
theorem res_ok {P : Program} {n : Nat} {w0 w : World} {ρ : Rho} {t : Tm} {a : Act} {H : Hp} (hg : RG ρ n t a) (h : RH ρ H w0 w) {r : ResultVar} {r' : AR} (hr : cR P n r = some r') {v : Value} (hv : aRes t H r' = some v) :
    ∃ v', (match r with | .tmp t => pure (a.tmps.getD t undef) | .cell x t => do loadVar t (← asAddr (a.tmps.getD x undef)) : Sem Value).run P w = .ok v' w ∧ RV ρ v v' := by
  unfold cR at hr
  split at hr
  · rename_i x
    split at hr
    · rename_i hx
      injection hr with hr
      subst hr
      injection hv with hv
      subst hv
      exact ⟨_, rfl, hg.val x hx⟩
    · cases hr
  · rename_i x T
    split at hr
    · rename_i hx
      have hval := hg.val x hx
      split at hr
      · rename_i ht
        injection hr with hr
        subst hr
        simp only [aRes] at hv
        split at hv
        · rename_i b q hp
          split at hv
          · rename_i u hu
            injection hv with hv
            subst hv
            obtain ⟨l, hl, e⟩ := rv_ptr (hp ▸ hval)
            obtain ⟨l', ys, hl', h2, _, hc⟩ := get_rel h hu
            rw [hl] at hl'
            injection hl' with hl'
            subst hl'
            cases h2 with
            | cons r rest =>
              rename_i y ys
              have := hc 0 y rfl
              rw [add_add, Nat.add_zero] at this
              refine ⟨y, ?_, .one (.one r)⟩
              simp only [e, asAddr, Sem.run_bind, Sem.run_pure, Result.andThen_ok, loadVar, run_isAgg ht]
              simp [this]
          · cases hv
        · cases hv
      · rename_i ht
        obtain ⟨m, hm, rfl⟩ := Option.map_eq_some_iff.1 hr
        simp only [aRes] at hv
        split at hv
        · rename_i b q hp
          obtain ⟨xs, hxs, rfl⟩ := Option.map_eq_some_iff.1 hv
          obtain ⟨l, hl, e⟩ := rv_ptr (hp ▸ hval)
          obtain ⟨l', ys, hl', h2, hn, hc⟩ := get_rel h hxs
          rw [hl] at hl'
          injection hl' with hl'
          subst hl'
          have hlo := run_loadCells_list (P := P) w (l.a.add q) ys hc
          rw [← h2.length, hn] at hlo
          refine ⟨.agg ys.toArray, ?_, .one (.agg h2)⟩
          simp only [e, asAddr, Sem.run_bind, Sem.run_pure, Result.andThen_ok, loadVar, run_isAgg ht, if_true, run_sizeOf hm, hlo]
        · cases hv
      · cases hr
    · cases hr
theorem resL_ok {P : Program} {n : Nat} {w0 w : World} {ρ : Rho} {t : Tm} {a : Act} {H : Hp} (hg : RG ρ n t a) (h : RH ρ H w0 w) : ∀ {rs : List ResultVar} {rs' : List AR} {vs : List Value}, rs.mapM (cR P n) = some rs' → aResL t H rs' = some vs →
    ∃ vs', (rs.mapM fun r => (match r with | .tmp t => pure (a.tmps.getD t undef) | .cell x t => do loadVar t (← asAddr (a.tmps.getD x undef)) : Sem Value)).run P w = .ok vs' w ∧ All2 (RV ρ) vs vs'
  | [], rs', vs, hr, hv => by
    simp at hr
    subst hr
    injection hv with hv
    subst hv
    exact ⟨[], rfl, .nil⟩
  | r :: rs, rs', vs, hr, hv => by
    simp only [List.mapM_cons, Option.bind_eq_bind, Option.pure_def, Option.bind_eq_some_iff] at hr
    obtain ⟨r', hr', rs'', hrs, he⟩ := hr
    injection he with he
    subst he
    simp only [aResL] at hv
    split at hv
    · rename_i u us hu hus
      injection hv with hv
      subst hv
      obtain ⟨v', h1, h2⟩ := res_ok hg h hr' hu
      obtain ⟨vs', h3, h4⟩ := resL_ok hg h hrs hus
      refine ⟨v' :: vs', ?_, .cons h2 h4⟩
      simp only [List.mapM_cons, Sem.run_bind, h1, h3, Result.andThen_ok, Sem.run_pure]
    · cases hv
/-- What a text ends in. -/
def Fin (rs : List AR) (K : Value → Hp → Prop) : Exit → Tm → Hp → Prop
  | .normal, t, H => ∃ v, aOut t H rs = some v ∧ K v H
  | .ret, t, H => ∃ v, aOut t H rs = some v ∧ K v H
  | _, _, _ => False
/-- THE LAW OF CALLS: what the function's text does, its call does. -/
theorem acalls_of {P : Program} {f : FuncId} {fn : Func} {c : Code} {c' : AC} {rs : List AR} {xs : List Value} {H : Hp} {K : Value → Hp → Prop} (hf : P.funcs[f]? = some fn) (hb : fn.body = some c) (hc : cC P fn.ntmps c = some c') (hr : fn.results.toList.mapM (cR P fn.ntmps) = some rs) (hx : xs.length ≤ fn.ntmps)
    (hs : AW P c' (Fin rs K) (fun i => xs.getD i undef) H) : ACalls P f xs H K := by
  intro ρ w0 w ys hxy h
  have hl := hxy.length
  refine calls_of_wp hf hb (wp_mono (AW_ok c c' _ _ H { tmps := ys.toArray ++ Array.replicate (fn.ntmps - ys.toArray.size) undef, defers := [] } w ρ hc hs ⟨by simp; omega, fun i hi => ?_⟩ h) fun e a w' hp => ?_)
  · simp only [Array.getD_eq_getD_getElem?, List.getD_eq_getElem?_getD]
    by_cases h1 : i < xs.length
    · obtain ⟨y, hy, hR⟩ := hxy.get i xs[i] (by simp [h1])
      have hy2 : i < ys.length := by omega
      have : ys[i]? = some y := hy
      rw [Array.getElem?_append_left (by simpa using hy2)]
      simp only [List.getElem?_toArray, this, List.getElem?_eq_getElem h1]
      exact hR
    · rw [Array.getElem?_append_right (by simp; omega)]
      simp only [List.getElem?_eq_none (show xs.length ≤ i by omega), Option.getD_none]
      have : (Array.replicate (fn.ntmps - ys.toArray.size) undef)[i - ys.toArray.size]?.getD undef = undef := by
        cases hq : (Array.replicate (fn.ntmps - ys.toArray.size) undef)[i - ys.toArray.size]? with
        | none => rfl
        | some v =>
          have := Array.getElem?_eq_some_iff.1 hq
          obtain ⟨h2, h3⟩ := this
          simp at h3
          simp [← h3]
      rw [this]
      exact rv_undef _
  · obtain ⟨ρ', t, H', e1, e2, e3, e4, e5⟩ := hp
    have fin : (∃ v, aOut t H' rs = some v ∧ K v H') → a.defers = [] ∧ ∃ v, (results fn a.tmps).run P w' = .ok v w' ∧ ∃ ρ' u H', Ext ρ ρ' ∧ RV ρ' u v ∧ RH ρ' H' w0 w' ∧ K u H' := by
      intro ⟨v, hv, hk⟩
      refine ⟨e3, ?_⟩
      unfold aOut at hv
      have hres : ∀ {vs}, aResL t H' rs = some vs → ∃ vs', (results fn a.tmps).run P w' = .ok (if h : vs'.toArray.size = 1 then vs'.toArray[0] else .tuple vs'.toArray) w' ∧ All2 (RV ρ') vs vs' := fun {vs} hvs => by
        obtain ⟨vs', h1, h2⟩ := resL_ok e2 e4 hr hvs
        refine ⟨vs', ?_, h2⟩
        unfold results
        simp only [Array.mapM_eq_mapM_toList, Sem.run_bind, Sem.run_map]
        have e0 : ∀ {r : Result (List Value)}, r = .ok vs' w' → ((r.andThen fun a w' => .ok a.toArray w').andThen fun a w' => Sem.run P (pure (if h : a.size = 1 then a[0] else Value.tuple a) : Sem Value) w') = .ok (if h : vs'.toArray.size = 1 then vs'.toArray[0] else .tuple vs'.toArray) w' := by
          rintro _ rfl
          rfl
        exact e0 h1
      split at hv
      · rename_i u hu
        injection hv with hv
        subst hv
        obtain ⟨vs', h1, h2⟩ := hres hu
        cases h2 with
        | cons r rest => cases rest with
          | nil => exact ⟨_, h1, ρ', u, H', e1, by simpa using r, e4, hk⟩
      · rename_i vs hne hu
        split at hv
        · rename_i hall
          injection hv with hv
          subst hv
          obtain ⟨vs', h1, h2⟩ := hres hu
          have hlen := h2.length
          refine ⟨_, h1, ρ', _, H', e1, ?_, e4, hk⟩
          rw [dif_neg (by
            intro h
            have : vs.length = 1 := by simpa [hlen] using h
            match vs, this with
            | [u], _ => exact hne u rfl)]
          refine .tuple ?_
          have : ∀ {us us' : List Value}, us.all notTup = true → All2 (RV ρ') us us' → All2 (RT ρ') us us' := by
            intro us us' hus h
            induction h with
            | nil => exact .nil
            | cons r s ih =>
              simp only [List.all_cons, Bool.and_eq_true] at hus
              refine .cons ?_ (ih hus.2)
              cases r with
              | one r => exact r
              | tuple r => exact absurd hus.1 (by simp [notTup])
          exact this hall h2
        · cases hv
      · cases hv
    cases e with
    | normal => exact fin e5
    | ret => exact fin e5
    | exit id => exact e5.elim
    | goto l => exact e5.elim
    | panic ch => exact e5.elim
    | outgrown => exact e5.elim
end Go.Proofs.Ytloeadlmcdddnaa.Abs
