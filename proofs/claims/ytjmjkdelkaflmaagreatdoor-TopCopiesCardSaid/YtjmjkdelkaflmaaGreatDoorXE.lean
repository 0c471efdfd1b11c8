/- An abstract machine for the program's text, part 13: the machine does what a plan says. -/
import Derived.Test.YtjmjkdelkaflmaaGreatDoorXD
set_option linter.unusedVariables false
set_option linter.unusedSimpArgs false
namespace Go.Proofs.YtjmjkdelkaflmaaGreatDoor.Abs
open Go Go.RowKit
section
variable {P : Program} {n : Nat} {w0 : World} {ops : Array Oper} {os : List AO}
theorem deps_at {j : Nat} {op : Oper} (hp : ops[j]? = some op) : (depsOf ops).getD j [] = (op.after.toList.filter (Region.binds .any)).map (·.on) := by
 have : ops.toList[j]? = some op := by simpa using hp
 simp [depsOf, List.getD_eq_getElem?_getD, this]
theorem ready_deps {j : Nat} {op : Oper} {L : Array Bool} (hp : ops[j]? = some op) (hr : j ∈ Region.ready .any ops L) : L.getD j true = false ∧ ∀ k ∈ (depsOf ops).getD j [], L.getD k false = true := by
 obtain ⟨h1, o, ho, h2⟩ := mem_ready.1 hr
 rw [hp] at ho
 injection ho with ho
 subst ho
 refine ⟨h1, fun k hk => ?_⟩
 rw [deps_at hp] at hk
 obtain ⟨e, he, rfl⟩ := List.mem_map.1 hk
 obtain ⟨he1, he2⟩ := List.mem_filter.1 he
 exact h2 e (by simpa using he1) he2
theorem ready_of {j : Nat} {op : Oper} {L : Array Bool} (hp : ops[j]? = some op) (h1 : L.getD j true = false) (h2 : ∀ k ∈ (depsOf ops).getD j [], L.getD k false = true) : j ∈ Region.ready .any ops L := by
 refine mem_ready.2 ⟨h1, op, hp, fun e he hb => h2 e.on ?_⟩
 rw [deps_at hp]
 exact List.mem_map.2 ⟨e, List.mem_filter.2 ⟨by simpa using he, hb⟩, rfl⟩
theorem mapM_get {f : Oper → Option AO} : ∀ {l : List Oper} {l' : List AO}, l.mapM f = some l' → l.length = l'.length ∧ ∀ (j : Nat) (o : Oper), l[j]? = some o → ∃ o', l'[j]? = some o' ∧ f o = some o'
 | [], l', h => by simp at h; subst h; exact ⟨rfl, fun j o h => by simp at h⟩
 | x :: l, l', h => by
  simp only [List.mapM_cons, Option.bind_eq_bind, Option.pure_def, Option.bind_eq_some_iff] at h
  obtain ⟨y, hy, ys, hys, he⟩ := h
  injection he with he
  subst he
  obtain ⟨h1, h2⟩ := mapM_get hys
  refine ⟨by simp [h1], fun j o hj => ?_⟩
  cases j with
  | zero => simp at hj; subst hj; exact ⟨y, rfl, hy⟩
  | succ j => exact h2 j o (by simpa using hj)
theorem getD_false_true {L : Array Bool} {j : Nat} (h : j < L.size) : L.getD j true = L.getD j false := by simp [Array.getD, h]
theorem set_true {L : Array Bool} {i : Nat} (h : i < L.size) : (L.setIfInBounds i true).getD i true = true := by simp [Array.getD, h]
theorem quiet_out {op : Oper} {o : AO} {t : Tm} {H : Hp} {b : Act} {w : World} {ρ : Rho} {x : Nat} (hc : cOp P n ops op = some o) (hd : o.dst = some x) (hq : quiet o.i = true) (hh : aHeld o t H) (hg : RG ρ n t b) (h : RH ρ H w0 w) :
  Outcome P ops op b w fun v' w' => w' = w ∧ RV ρ (t x) v' := by
 obtain ⟨hi, _, _, _⟩ := cOp_spec hc
 obtain ⟨w1, w2⟩ := wanted_of hc hg
 unfold aHeld at hh
 rw [hd] at hh
 simp only at hh
 split at hh
 ·rename_i hgn
  obtain ⟨_, v', h1, h2⟩ := (cI_ok hi hh hg h).2 hq
  exact .inl ⟨w1 hgn, .inl ⟨v', w, .inl h1, rfl, h2⟩⟩
 ·rename_i g want hgs
  obtain ⟨c, hc1, hh⟩ := hh
  split at hh
  ·rename_i hcw
   subst hcw
   obtain ⟨_, v', h1, h2⟩ := (cI_ok hi hh hg h).2 hq
   exact .inl ⟨by rw [w2 g _ _ hgs hc1]; simp, .inl ⟨v', w, .inl h1, rfl, h2⟩⟩
  ·rename_i hcw
   exact .inr ⟨by rw [w2 g want c hgs hc1]; simpa using hcw, rfl, by rw [hh]; exact rv_undef _⟩
theorem quiet_step {op : Oper} {o : AO} {t : Tm} {H : Hp} {b : Act} {w : World} {ρ : Rho} {x : Nat} {K : Tm → Hp → Prop} (hc : cOp P n ops op = some o) (hd : o.dst = some x) (hq : quiet o.i = true) (hr : x ∉ o.reads) (hs : aStep P o K t H) (hg : RG ρ n t b) (h : RH ρ H w0 w) :
  ∃ v v', RV ρ v v' ∧ K (upd t o.dst v) H ∧ aHeld o (upd t o.dst v) H := by
 obtain ⟨hi, _, _, _⟩ := cOp_spec hc
 have hne : ∀ f xs, o.i ≠ .call f xs := fun f xs e => by rw [e] at hq; cases hq
 have hneX : ∀ f xs, o.i ≠ .xcall f xs := fun f xs e => by rw [e] at hq; cases hq
 have hneV : ∀ x xs, o.i ≠ .callV x xs := fun x xs e => by rw [e] at hq; cases hq
 have hrun : ∀ {K : Value → Hp → Prop}, aRun P o.i (ev t) H K → ∃ v H', aI o.i (ev t) H = some (v, H') ∧ K v H' := fun {K} hr => by
  unfold aRun at hr
  split at hr
  ·rename_i f xs e; exact absurd e (hne f xs)
  ·rename_i x xs e; exact absurd e (hneX x xs)
  ·rename_i x xs e; exact absurd e (hneV x xs)
  ·exact hr
 have hrd : ∀ v, ∀ y ∈ o.reads, upd t o.dst v y = t y := fun v y hy => by
  rw [hd]
  simp only [upd]
  split
  ·rename_i e; subst e; exact absurd hy hr
  ·rfl
 have hset : ∀ v, upd t o.dst v x = v := fun v => by rw [hd]; simp [upd]
 have hev : ∀ v, aI o.i (ev (upd t o.dst v)) H = aI o.i (ev t) H := fun v => aI_congr (reads_ev (hrd v))
 unfold aStep at hs
 split at hs
 ·rename_i hgn
  obtain ⟨v, H', hv, hk⟩ := hrun hs
  obtain ⟨he, v', _, h2⟩ := (cI_ok hi hv hg h).2 hq
  subst he
  refine ⟨v, v', h2, hk, ?_⟩
  unfold aHeld
  rw [hd]
  simp only [hgn]
  rw [← hd, hev, hset]
  exact hv
 ·rename_i g want hgs
  obtain ⟨c, hc1, hs⟩ := hs
  split at hs
  ·rename_i hcw
   obtain ⟨v, H', hv, hk⟩ := hrun hs
   obtain ⟨he, v', _, h2⟩ := (cI_ok hi hv hg h).2 hq
   subst he
   refine ⟨v, v', h2, hk, ?_⟩
   unfold aHeld
   rw [hd]
   simp only [hgs]
   refine ⟨c, ?_, ?_⟩
   ·have := hrd v g (by simp [AO.reads, hgs])
    rw [hd] at this
    rw [this]
    exact hc1
   ·rw [if_pos hcw, ← hd, hev, hset]
    exact hv
  ·rename_i hcw
   refine ⟨undef, undef, rv_undef _, hs, ?_⟩
   unfold aHeld
   rw [hd]
   simp only [hgs]
   refine ⟨c, ?_, ?_⟩
   ·have := hrd undef g (by simp [AO.reads, hgs])
    rw [hd] at this
    rw [this]
    exact hc1
   ·rw [if_neg hcw, ← hd, hset]
theorem heldAll_get {cs : List AO} {t : Tm} {H : Hp} (h : heldAll cs t H) : ∀ c ∈ cs, aHeld c t H := by
 induction cs with
 | nil => intro c hc; cases hc
 | cons x cs ih =>
  intro c hc
  rcases List.mem_cons.1 hc with rfl | hc
  ·exact h.1
  ·exact ih h.2 c hc
theorem mapM_os {cs : List Nat} {l : List AO} (h : cs.mapM (os[·]?) = some l) : ∀ d ∈ cs, ∀ o, os[d]? = some o → o ∈ l := by
 induction cs generalizing l with
 | nil => intro d hd; cases hd
 | cons c cs ih =>
  simp only [List.mapM_cons, Option.bind_eq_bind, Option.pure_def, Option.bind_eq_some_iff] at h
  obtain ⟨y, hy, ys, hys, he⟩ := h
  injection he with he
  subst he
  intro d hd o ho
  rcases List.mem_cons.1 hd with rfl | hd
  ·rw [hy] at ho
   injection ho with ho
   subst ho
   simp
  ·exact List.mem_cons_of_mem _ (ih hys d hd o ho)
theorem plan_ok {Q : Exit → Act → World → Prop} {K : Tm → Hp → Prop} {ρ0 : Rho} {D : List Deferred} (hm : ops.toList.mapM (cOp P n ops) = some os) (hD : okD ops os (depsOf ops) = true)
  (hQ : ∀ ρ' t' H' a' w', Ext ρ0 ρ' → RG ρ' n t' a' → a'.defers = D → RH ρ' H' w0 w' → K t' H' → Q .normal a' w') :
  ∀ (fuel : Nat) (L : Array Bool) (A : List Nat) (ip : IP) (p : AP) (t : Tm) (H : Hp) (a b : Act) (w : World) (ρ : Rho), Inv n ops os (depsOf ops) A L t H a b ρ → okP ops os (depsOf ops) none A ip = true → inl os ip = some p → AWp P p K t H → RH ρ H w0 w → Ext ρ0 ρ → a.defers = D →
   ((List.range os.length).filter fun j => !L.getD j true).length ≤ fuel → wpAny P .any ops Q fuel L a w := by
 obtain ⟨hlen, hget⟩ := mapM_get hm
 have hsz : ops.size = os.length := by simpa using hlen
 have hop : ∀ {j : Nat}, j < os.length → ∃ op o, ops[j]? = some op ∧ os[j]? = some o ∧ cOp P n ops op = some o := fun {j} hj => by
  have : j < ops.size := by omega
  obtain ⟨o', h1, h2⟩ := hget j ops[j] (by simp [this])
  exact ⟨ops[j], o', by simp [this], h1, h2⟩

 have fin : ∀ {L A ip p t H a b w ρ}, Inv n ops os (depsOf ops) A L t H a b ρ → okP ops os (depsOf ops) none A ip = true → inl os ip = some p → AWp P p K t H → RH ρ H w0 w → Ext ρ0 ρ → a.defers = D → (∀ j, j < os.length → L.getD j true = true) → Q .normal a w := by
  intro L A ip p t H a b w ρ hI hp hl hs hR he hd hall
  have hA : ∀ j, j < os.length → j ∈ A := fun j hj => hI.listed j hj (hall j hj)
  have hab : RG ρ n t a := by
   refine ⟨hI.asz, fun i hi => ?_⟩
   have := hI.same i fun d o hdA hdL ho => by
    have hdl := (List.getElem?_eq_some_iff.1 ho).1
    rw [hall d hdl] at hdL
    cases hdL
   have h2 := hI.rg.val i hi
   rw [Array.getD_eq_getD_getElem?] at h2 ⊢
   rw [this]
   exact h2
  cases ip with
  | done =>
   injection hl with hl
   subst hl
   exact hQ ρ t H a w he hab hd hR hs
  | stop => cases hp
  | quiet i rest =>
   simp only [okP, Bool.and_eq_true, decide_eq_true_eq, Bool.not_eq_true'] at hp
   have := hA i hp.1.1.1.1
   simp [this] at hp
  | br i cs rest more =>
   simp only [okP, Bool.and_eq_true, decide_eq_true_eq, Bool.not_eq_true'] at hp
   have := hA i hp.1.1.1.1.1
   simp [this] at hp
 have allReady : ∀ {L : Array Bool}, Region.ready .any ops L = [] → L.size = os.length → ∀ j, j < os.length → L.getD j true = true := by
  intro L hr hs j
  induction j using Nat.strongRecOn with
  | _ j ih =>
   intro hj
   obtain ⟨op, o, h1, h2, h3⟩ := hop hj
   cases hq : L.getD j true with
   | true => rfl
   | false =>
    have : j ∈ Region.ready .any ops L := ready_of h1 hq fun k hk => by
     have hlt := okD_lt hD hj hk
     have := ih k hlt (by omega)
     rwa [getD_false_true (by omega)] at this
    rw [hr] at this
    cases this
 intro fuel
 induction fuel with
 | zero =>
  intro L A ip p t H a b w ρ hI hp hl hs hR he hd hcnt
  have hnil : (List.range os.length).filter (fun j => !L.getD j true) = [] := List.eq_nil_of_length_eq_zero (by omega)
  have hall : ∀ j, j < os.length → L.getD j true = true := fun j hj => by
   cases hq : L.getD j true with
   | true => rfl
   | false =>
    have : j ∈ (List.range os.length).filter (fun j => !L.getD j true) := List.mem_filter.2 ⟨List.mem_range.2 hj, by rw [hq]; rfl⟩
    rw [hnil] at this
    cases this
  refine ⟨?_, fin hI hp hl hs hR he hd hall⟩
  cases hr : Region.ready .any ops L with
  | nil => rfl
  | cons i rest =>
   obtain ⟨h1, op, ho, _⟩ := mem_ready.1 (show i ∈ Region.ready .any ops L by rw [hr]; simp)
   rw [hall i (by rw [← hsz]; exact (Array.getElem?_eq_some_iff.1 ho).1)] at h1
   cases h1
 | succ fuel IH =>
  intro L A ip p t H a b w ρ hI hp hl hs hR he hd hcnt
  refine ⟨fun hr => fin hI hp hl hs hR he hd (allReady hr hI.size), fun i hi => ?_⟩
  obtain ⟨hiL, op, hio, _⟩ := mem_ready.1 hi
  have hilt : i < os.length := by rw [← hsz]; exact (Array.getElem?_eq_some_iff.1 hio).1
  obtain ⟨op', o, e1, hoi, hco⟩ := hop hilt
  rw [hio] at e1
  injection e1 with e1
  subst e1
  obtain ⟨_, hdeps⟩ := ready_deps hio hi
  have hsel := cI_sel (cOp_spec hco).1
  have hdst : o.dst = op.dst := (cOp_spec hco).2.1
  have hdn := (cOp_spec hco).2.2.1
  have hcnt' : ((List.range os.length).filter fun j => !(L.setIfInBounds i true).getD j true).length ≤ fuel := by
   have hlt := filt_lt (p := fun j => !L.getD j true) (q := fun j => !(L.setIfInBounds i true).getD j true) (i := i) (List.range os.length) (fun x hx => by
    by_cases hxi : i = x
    ·subst hxi
     rw [set_true (by rw [hI.size]; exact hilt)] at hx
     cases hx
    ·rw [getD_set_ne true hxi] at hx
     exact hx) (List.mem_range.2 hilt) (by rw [hiL]; rfl) (by rw [set_true (by rw [hI.size]; exact hilt)]; rfl)
   omega
  have hL' : ∀ d, (L.setIfInBounds i true).getD d true = false → d ≠ i ∧ L.getD d true = false := fun d hd => by
   by_cases hdi : i = d
   ·subst hdi
    rw [set_true (by rw [hI.size]; exact hilt)] at hd
    cases hd
   ·rw [getD_set_ne true hdi] at hd
    exact ⟨Ne.symm hdi, hd⟩
  have hLt : ∀ d, (L.setIfInBounds i true).getD d true = true → d = i ∨ L.getD d true = true := fun d hd => by
   by_cases hdi : i = d
   ·exact .inl hdi.symm
   ·rw [getD_set_ne true hdi] at hd
    exact .inr hd

  have hlook : ∀ {A t H b ρ}, Inv n ops os (depsOf ops) A L t H a b ρ → execOp a.eval op = execOp b.eval op ∧ Region.wanted op (yielded ops a.tmps) = Region.wanted op (yielded ops b.tmps) := by
   intro A t H b ρ hI
   refine exec_same hsel fun x hx => hI.same x fun d od hdA hdL hod hdx => ?_
   have := alone_spec ((hI.held d od hdA hdL hod).2.2 x hdx) hoi hio (.inl hx)
   have h1 := hdeps d this
   rw [← getD_false_true (by rw [hI.size]; exact (List.getElem?_eq_some_iff.1 hod).1), hdL] at h1
   cases h1

  suffices inner : ∀ (ip : IP) (mode : Option (List Nat)) (A : List Nat) (p : AP) (t : Tm) (b : Act), Inv n ops os (depsOf ops) A L t H a b ρ → okP ops os (depsOf ops) mode A ip = true → (∀ cov, mode = some cov → i ∉ cov ∧ i ∉ A) → inl os ip = some p → AWp P p K t H →
    wpOp P ops Q i (wpAny P .any ops Q fuel (L.setIfInBounds i true)) a w from inner ip none A p t b hI hp (fun cov h => by cases h) hl hs

  have early : ∀ (ip : IP) (A : List Nat) (p : AP) (t : Tm) (b : Act), Inv n ops os (depsOf ops) A L t H a b ρ → okP ops os (depsOf ops) none A ip = true → i ∈ A → inl os ip = some p → AWp P p K t H →
    wpOp P ops Q i (wpAny P .any ops Q fuel (L.setIfInBounds i true)) a w := by
   intro ip A p t b hI hp hiA hl hs
   obtain ⟨hq, hh, _⟩ := hI.held i o hiA hiL hoi
   have hx : ∃ x, o.dst = some x := by
    cases hx : o.dst with
    | none => unfold aHeld at hh; rw [hx] at hh; exact hh.elim
    | some x => exact ⟨x, rfl⟩
   obtain ⟨x, hx⟩ := hx
   have hout := (quiet_out hco hx hq hh hI.rg hR).same (hlook hI)
   unfold wpOp
   rw [hio]
   refine hout.wp fun v' w' hf => ?_
   obtain ⟨hw, hv⟩ := hf
   rw [hw]
   have hxn := hdn x (by rw [← hdst]; exact hx)
   refine IH _ A ip p t H (a.put op.dst v') (b.put op.dst v') w ρ ⟨fun j hj hjl => ?_, by simpa using hI.size, by cases op.dst <;> simpa [Act.put] using hI.asz, ?_, fun y hy => ?_, fun d od hdA hdL hod => hI.held d od hdA (hL' d hdL).2 hod, hI.down⟩ hp hl hs hR he (by rw [put_defers]; exact hd) hcnt'
   ·rcases hLt j hjl with rfl | h
    ·exact hiA
    ·exact hI.listed j hj h
   ·have := hI.rg.put (d := op.dst) hdn hv
    have e : upd t op.dst (t x) = t := by
     rw [← hdst, hx]
     funext y
     simp only [upd]
     split
     ·rename_i h; rw [h]
     ·rfl
    rwa [e] at this
   ·rw [put_get, put_get, hI.asz, hI.rg.size]
    split
    ·rfl
    ·rename_i hne
     refine hI.same y fun d od hdA hdL hod hdx => ?_
     by_cases hdi : i = d
     ·subst hdi
      rw [hoi] at hod
      injection hod with hod
      subst hod
      exact hne (hdst ▸ hdx)
     ·exact hy d od hdA (by rw [getD_set_ne true hdi]; exact hdL) hod hdx
  intro ip
  induction ip with
  | done =>
   intro mode A p t b hI hp hmode hl hs
   cases mode with
   | none =>
    refine early .done A p t b hI hp ?_ hl hs
    simp only [okP] at hp
    exact all_contains hp i (List.mem_range.2 hilt)
   | some cov => cases hp
  | stop =>
   intro mode A p t b hI hp hmode hl hs
   cases mode with
   | none => cases hp
   | some cov =>
    obtain ⟨h1, h2⟩ := hmode cov rfl
    simp only [okP] at hp
    refine absurd (all_contains hp i (List.mem_filter.2 ⟨List.mem_range.2 hilt, ?_⟩)) h1
    simp only [Bool.and_eq_true, Bool.not_eq_true', List.contains_eq_mem, decide_eq_false_iff_not]
    refine ⟨h2, List.all_eq_true.2 fun k hk => ?_⟩
    have hkl := hdeps k hk
    have hlt := okD_lt hD hilt hk
    simpa using hI.listed k (by omega) (by rw [getD_false_true (by rw [hI.size]; omega)]; exact hkl)
  | quiet j rest ih =>
   intro mode A p t b hI hp hmode hl hs
   cases mode with
   | some cov => cases hp
   | none =>
    by_cases hiA : i ∈ A
    ·exact early _ A p t b hI hp hiA hl hs
    have hp0 := hp
    simp only [okP, Bool.and_eq_true, decide_eq_true_eq, Bool.not_eq_true', List.contains_eq_mem, decide_eq_false_iff_not] at hp
    obtain ⟨⟨⟨⟨hjl, hjA⟩, hjd⟩, hjq⟩, hpr⟩ := hp
    obtain ⟨opj, oj, hopj, hoj, hcj⟩ := hop hjl
    simp only [inl, hoj] at hl
    split at hl
    ·rename_i o1 r ho1 hr
     injection ho1 with ho1
     subst ho1
     injection hl with hl
     subst hl
     simp only [AWp] at hs
     simp only [quietAt, hoj, Bool.and_eq_true] at hjq
     obtain ⟨hq, hjq⟩ := hjq
     have hxx : ∃ x, oj.dst = some x ∧ alone ops os (depsOf ops) j x = true := by
      split at hjq
      ·rename_i x hx
       exact ⟨x, hx, hjq⟩
      ·cases hjq
     obtain ⟨x, hx, hal⟩ := hxx
     have halj : ∀ y, oj.dst = some y → alone ops os (depsOf ops) j y = true := fun y hy => by
      rw [hx] at hy
      injection hy with hy
      rw [← hy]
      exact hal
     have hself : ∀ x, oj.dst = some x → x ∉ oj.reads := fun x hx hr => by
      have := okD_lt hD hjl (alone_spec (halj x hx) hoj hopj (.inr hr))
      omega
     obtain ⟨v, v', hv, hk, hh⟩ := quiet_step hcj hx hq (hself x hx) hs hI.rg hR
     have hjdst : oj.dst = opj.dst := (cOp_spec hcj).2.1
     have hjn := (cOp_spec hcj).2.2.1
     have hjL : L.getD j true = false := by
      cases hq : L.getD j true with
      | false => rfl
      | true => exact absurd (hI.listed j hjl hq) hjA
     refine ih none (j :: A) r _ (b.put oj.dst v') ⟨fun k hk h => List.mem_cons_of_mem _ (hI.listed k hk h), hI.size, hI.asz, hI.rg.put (fun y hy => hjn y (hjdst ▸ hy)) hv, fun y hy => ?_, fun d od hdA hdL hod => ?_, fun d hd k hk => ?_⟩ hpr (fun cov h => by cases h) hr hk
     ·rw [put_get]
      split
      ·rename_i hjy
       exact absurd hjy (hy j oj (by simp) hjL hoj)
      ·exact hI.same y fun d od hdA hdL hod => hy d od (List.mem_cons_of_mem _ hdA) hdL hod
     ·rcases List.mem_cons.1 hdA with rfl | hdA
      ·rw [hoj] at hod
       injection hod with hod
       subst hod
       exact ⟨hq, hh, halj⟩
      ·obtain ⟨h1, h2, h3⟩ := hI.held d od hdA hdL hod
       have hdlt := (List.getElem?_eq_some_iff.1 hod).1
       obtain ⟨opd, od', hopd, hod', _⟩ := hop hdlt
       refine ⟨h1, aHeld_upd h1 h2 (.inr rfl) fun y hy => ⟨?_, fun hr => ?_⟩, h3⟩
       ·rcases (okD_spec hD hod hoj hopd hy).1 with h | h
        ·exact absurd (by rw [← h]; exact hdA) hjA
        ·exact h
       ·exact hjA (hI.down d hdA j (alone_spec (halj y hy) hod hopd (.inr hr)))
     ·rcases List.mem_cons.1 hd with rfl | hd
      ·exact List.mem_cons_of_mem _ (by simpa using List.all_eq_true.1 hjd k hk)
      ·exact List.mem_cons_of_mem _ (hI.down d hd k hk)
    ·cases hl
  | br j cs rest more ihr ihm =>
   intro mode A p t b hI hp hmode hl hs
   by_cases hiA : i ∈ A
   ·cases mode with
    | none => exact early _ A p t b hI hp hiA hl hs
    | some cov => exact absurd hiA (hmode cov rfl).2
   have hp' : (decide (j < os.length) && !A.contains j && ((depsOf ops).getD j []).all (A.contains ·) && (A.all fun d => !looksAt os d || ((depsOf ops).getD j []).contains d || cs.contains d) && okP ops os (depsOf ops) none (j :: A) rest && okP ops os (depsOf ops) (some (j :: mode.getD [])) A more) = true := by
    cases mode <;> exact hp
   simp only [Bool.and_eq_true, decide_eq_true_eq, Bool.not_eq_true', List.contains_eq_mem, decide_eq_false_iff_not] at hp'
   obtain ⟨⟨⟨⟨⟨hjl, hjA⟩, hjd⟩, hchk⟩, hpr⟩, hpm⟩ := hp'
   simp only [inl] at hl
   split at hl
   ·rename_i oj l r m hoj hcs hr hm'
    injection hl with hl
    subst hl
    simp only [AWp] at hs
    by_cases hij : i = j
    ·subst hij
     rw [hoi] at hoj
     injection hoj with hoj
     subst hoj
     have hout := (step_out hco hs.1 hI.rg hR).same (hlook hI)
     unfold wpOp
     rw [hio]
     refine hout.wp fun v' w' hf => ?_
     obtain ⟨ρ', v, H', e1, e2, e3, hheld, hrest⟩ := hf
     refine IH _ (i :: A) rest r _ H' (a.put op.dst v') (b.put op.dst v') w' ρ' ⟨fun k hk h => ?_, by simpa using hI.size, by cases op.dst <;> simpa [Act.put] using hI.asz, (hI.rg.ext e1).put hdn e2, fun y hy => ?_, fun d od hdA hdL hod => ?_, fun d hd k hk => ?_⟩ hpr hr hrest e3 (he.trans e1) (by rw [put_defers]; exact hd) hcnt'
     ·rcases hLt k h with rfl | h
      ·simp
      ·exact List.mem_cons_of_mem _ (hI.listed k hk h)
     ·rw [put_get, put_get, hI.asz, hI.rg.size]
      split
      ·rfl
      ·exact hI.same y fun d od hdA hdL hod hdx => hy d od (List.mem_cons_of_mem _ hdA) (by
        rw [getD_set_ne true (fun (h : i = d) => hiA (by rw [h]; exact hdA))]
        exact hdL) hod hdx
     ·obtain ⟨hdi, hdL⟩ := hL' d hdL
      have hdA : d ∈ A := by
       rcases List.mem_cons.1 hdA with h | h
       ·exact absurd h hdi
       ·exact h
      obtain ⟨h1, h2, h3⟩ := hI.held d od hdA hdL hod
      refine ⟨h1, ?_, h3⟩
      have hdlt := (List.getElem?_eq_some_iff.1 hod).1
      obtain ⟨opd, od', hopd, hod', _⟩ := hop hdlt
      cases hlk : looks od.i with
      | true =>
       have hc := List.all_eq_true.1 hchk d hdA
       simp only [looksAt, hod, hlk, Bool.not_true, Bool.false_or, Bool.or_eq_true, decide_eq_true_eq] at hc
       rcases hc with hc | hc
       ·have := hdeps d hc
        rw [← getD_false_true (by rw [hI.size]; exact hdlt), hdL] at this
        cases this
       ·have := heldAll_get hheld od (mapM_os hcs d hc od hod)
        exact this
      | false =>
       refine aHeld_upd h1 h2 (.inl hlk) fun y hy => ⟨?_, fun hrd => ?_⟩
       ·rcases (okD_spec hD hod hoi hopd (hdst ▸ hy)).1 with h | h
        ·exact absurd h hdi
        ·exact h
       ·rcases (okD_spec hD hod hoi hopd (hdst ▸ hy)).2 (.inr hrd) with h | h | h
        ·exact hdi h
        ·exact hiA (hI.down d hdA i h)
        ·have := hdeps d h
         rw [← getD_false_true (by rw [hI.size]; exact hdlt), hdL] at this
         cases this
     ·rcases List.mem_cons.1 hd with rfl | hd
      ·exact List.mem_cons_of_mem _ (by simpa using List.all_eq_true.1 hjd k hk)
      ·exact List.mem_cons_of_mem _ (hI.down d hd k hk)
    ·refine ihm (some (j :: mode.getD [])) A m t b hI hpm (fun cov h => ?_) hm' hs.2
     injection h with h
     subst h
     refine ⟨fun hc => ?_, hiA⟩
     rcases List.mem_cons.1 hc with h | h
     ·exact hij h
     ·cases mode with
      | none => cases h
      | some cov => exact (hmode cov rfl).1 h
   ·cases hl
end
def cC (P : Program) (n : Nat) : Code → Option AC
 | .skip => some .skip
 | .region _ ops false => (ops.toList.mapM (cOp P n ops)).map .list
 | .region _ ops true => if P.follows .mixedOrders = true then (cDraw P n ops).map .plan else none
 | .seq x y => match cC P n x, cC P n y with
  | some x, some y => some (.seq x y)
  | _, _ => none
 | .cond c x y => match cO n c, cC P n x, cC P n y with
  | some c, some x, some y => some (.cond c x y)
  | _, _, _ => none
 | .block id x => (cC P n x).map (.block id)
 | .loop x => (cC P n x).map .loop
 | .exit id => some (.exit id)
 | .ret => some .ret
 | .label _ => some .skip
 | .scope x => cC P n x
 | _ => none
theorem wp_loop_n {P : Program} {c : Code} {Q : Exit → Act → World → Prop} (I : Nat → Act → World → Prop) (round : ∀ n a w, I n a w → c.wp P (Exit.then (fun a' w' => ∃ m, m < n ∧ I m a' w') Q) a w) {n : Nat} {a : Act} {w : World} (h0 : I n a w) : (Code.loop c).wp P Q a w := by
 intro b k cs
 have key : ∀ n a w, I n a w → ∃ e a' w', Q e a' w' ∧ Arrives P (lone (b.at a (.code c :: .inLoop c :: k)) cs w) b k cs e a' w' := by
  intro n
  induction n using Nat.strongRecOn with
  | _ n ih =>
   intro a w hI
   obtain ⟨e, a1, w1, hq, harr⟩ := round n a w hI b (.inLoop c :: k) cs
   cases e with
   | normal =>
    obtain ⟨m, hlt, hm⟩ := hq
    obtain ⟨e2, a2, w2, hq2, harr2⟩ := ih m hlt a1 w1 hm
    exact ⟨e2, a2, w2, hq2, .of_steps (Steps.trans harr (.one step_inLoop)) harr2⟩
   | exit id => exact ⟨_, a1, w1, hq, .pass (x := .inLoop c) rfl (fun _ _ => .inl (by simp)) harr⟩
   | goto l => exact ⟨_, a1, w1, hq, .pass (x := .inLoop c) rfl (fun _ _ => .inl (by simp)) harr⟩
   | ret => exact ⟨_, a1, w1, hq, .pass (x := .inLoop c) rfl (fun _ _ => .inl (by simp)) harr⟩
   | panic ch => exact ⟨_, a1, w1, hq, .pass (x := .inLoop c) rfl (fun _ _ => .inl (by simp)) harr⟩
   | outgrown => exact ⟨_, a1, w1, hq, .pass (x := .inLoop c) rfl (fun _ _ => .inl (by simp)) harr⟩
 obtain ⟨e, a', w', hq, harr⟩ := key n a w h0
 exact ⟨e, a', w', hq, .of_steps (.one step_loop) harr⟩
def noG (Q : Exit → Tm → Hp → Prop) : Exit → Tm → Hp → Prop
 | .goto _, _, _ => False
 | e, t, H => Q e t H
theorem ACalls.mono {P : Program} {f : FuncId} {xs : List Value} {H : Hp} {K K' : Value → Hp → Prop} (h : ACalls P f xs H K) (hk : ∀ v H, K v H → K' v H) : ACalls P f xs H K' := by
 intro ρ w0 w ys h1 h2
 refine (h ρ w0 w ys h1 h2).mono fun e w' he => ?_
 cases e with
 | returned v =>
  obtain ⟨ρ', u, H', e1, e2, e3, e4⟩ := he
  exact ⟨ρ', u, H', e1, e2, e3, hk _ _ e4⟩
 | panicked c => exact he
 | outgrown => exact he
section
variable {P : Program} {t : Tm} {H : Hp}
theorem aRun_mono {i : AI} {g : Opd → Value} {K K' : Value → Hp → Prop} (hk : ∀ v H, K v H → K' v H) (h : aRun P i g H K) : aRun P i g H K' := by
 cases i
 case call f xs => exact ACalls.mono h hk
 case xcall f xs =>
  intro ρ w0 w ys h1 h2
  obtain ⟨v', w', h3, ρ', v, H', e1, e2, e3, e4⟩ := h ρ w0 w ys h1 h2
  exact ⟨v', w', h3, ρ', v, H', e1, e2, e3, hk _ _ e4⟩
 case callV x xs =>
  simp only [aRun] at h ⊢
  split at h
  ·obtain ⟨h1, h2, h3⟩ := h
   exact ⟨h1, h2, ACalls.mono h3 hk⟩
  ·cases h
 all_goals
  obtain ⟨v, H', h1, h2⟩ := h
  exact ⟨v, H', h1, hk _ _ h2⟩
theorem aStep_mono {o : AO} {K K' : Tm → Hp → Prop} (hk : ∀ t H, K t H → K' t H) (h : aStep P o K t H) : aStep P o K' t H := by
 unfold aStep at h ⊢
 split
 ·rename_i hg
  rw [hg] at h
  exact aRun_mono (fun v H => hk _ _) h
 ·rename_i g want hg
  rw [hg] at h
  obtain ⟨b, h1, h2⟩ := h
  refine ⟨b, h1, ?_⟩
  split
  ·rename_i hb
   rw [if_pos hb] at h2
   exact aRun_mono (fun v H => hk _ _) h2
  ·rename_i hb
   rw [if_neg hb] at h2
   exact hk _ _ h2
theorem AWl_mono {K K' : Tm → Hp → Prop} (hk : ∀ t H, K t H → K' t H) : ∀ {os : List AO} {t : Tm} {H : Hp}, AWl P os K t H → AWl P os K' t H
 | [], _, _, h => hk _ _ h
 | o :: os, _, _, h => aStep_mono (fun t H h => AWl_mono hk h) h
theorem AWp_mono {K K' : Tm → Hp → Prop} (hk : ∀ t H, K t H → K' t H) : ∀ {p : AP} {t : Tm} {H : Hp}, AWp P p K t H → AWp P p K' t H
 | .done, _, _, h => hk _ _ h
 | .stop, _, _, _ => trivial
 | .quiet o rest, _, _, h => aStep_mono (fun t H h => AWp_mono hk h) h
 | .br o cs rest more, _, _, h => ⟨aStep_mono (fun t H h => ⟨h.1, AWp_mono hk h.2⟩) h.1, AWp_mono hk h.2⟩
theorem xThen_mono {n n' : Tm → Hp → Prop} {Q Q' : Exit → Tm → Hp → Prop} (hn : ∀ t H, n t H → n' t H) (hq : ∀ e t H, Q e t H → Q' e t H) : ∀ e t H, xThen n Q e t H → xThen n' Q' e t H := fun e t H h => by
 cases e <;> first
  | exact hn _ _ h
  | exact hq _ _ _ h
theorem xBlock_mono {id : Nat} {Q Q' : Exit → Tm → Hp → Prop} (hq : ∀ e t H, Q e t H → Q' e t H) : ∀ e t H, xBlock id Q e t H → xBlock id Q' e t H := fun e t H h => by
 cases e with
 | exit j =>
  simp only [xBlock] at h ⊢
  split
  ·rename_i hj
   rw [if_pos hj] at h
   exact hq _ _ _ h
  ·rename_i hj
   rw [if_neg hj] at h
   exact hq _ _ _ h
 | _ => exact hq _ _ _ h
theorem AW_mono : ∀ {c : AC} {Q Q' : Exit → Tm → Hp → Prop} {t : Tm} {H : Hp}, (∀ e t H, Q e t H → Q' e t H) → AW P c Q t H → AW P c Q' t H
 | .skip, _, _, _, _, hq, h => hq _ _ _ h
 | .ret, _, _, _, _, hq, h => hq _ _ _ h
 | .exit id, _, _, _, _, hq, h => hq _ _ _ h
 | .list os, _, _, _, _, hq, h => AWl_mono (hq _) h
 | .plan p, _, _, _, _, hq, h => AWp_mono (hq _) h
 | .seq x y, _, _, _, _, hq, h => AW_mono (c := x) (xThen_mono (fun t H h => AW_mono (c := y) hq h) hq) h
 | .cond c x y, _, _, _, _, hq, h => by
  obtain ⟨b, h1, h2⟩ := h
  refine ⟨b, h1, ?_⟩
  split
  ·rename_i hb
   rw [if_pos hb] at h2
   exact AW_mono (c := x) hq h2
  ·rename_i hb
   rw [if_neg hb] at h2
   exact AW_mono (c := y) hq h2
 | .block id x, _, _, _, _, hq, h => AW_mono (c := x) (xBlock_mono hq) h
 | .loop x, _, _, _, _, hq, h => by
  obtain ⟨I, μ, h0, hr⟩ := h
  exact ⟨I, μ, h0, fun t H hI => AW_mono (c := x) (xThen_mono (fun _ _ h => h) hq) (hr t H hI)⟩
end
theorem AW_noG {P : Program} : ∀ (c : AC) (Q : Exit → Tm → Hp → Prop) (t : Tm) (H : Hp), AW P c Q t H → AW P c (noG Q) t H := by
 intro c
 induction c with
 | skip => intro Q t H h; exact h
 | ret => intro Q t H h; exact h
 | exit id => intro Q t H h; exact h
 | list os => intro Q t H h; exact h
 | plan p => intro Q t H h; exact h
 | seq x y ihx ihy =>
  intro Q t H h
  refine AW_mono (c := x) (fun e t' H' he => ?_) (ihx _ t H h)
  cases e with
  | normal => exact ihy Q t' H' he
  | goto l => exact he.elim
  | exit id => exact he
  | ret => exact he
  | panic ch => exact he
  | outgrown => exact he
 | cond d x y ihx ihy =>
  intro Q t H h
  obtain ⟨b, hb, h⟩ := h
  refine ⟨b, hb, ?_⟩
  cases b with
  | true => exact ihx Q t H h
  | false => exact ihy Q t H h
 | block id x ih =>
  intro Q t H h
  refine AW_mono (c := x) (fun e t' H' he => ?_) (ih _ t H h)
  cases e with
  | normal => exact he
  | goto l => exact he.elim
  | exit id' =>
   simp only [noG, xBlock] at he ⊢
   split
   ·rename_i hi; rw [if_pos hi] at he; exact he
   ·rename_i hi; rw [if_neg hi] at he; exact he
  | ret => exact he
  | panic ch => exact he
  | outgrown => exact he
 | loop x ih =>
  intro Q t H h
  obtain ⟨I, μ, h0, hr⟩ := h
  refine ⟨I, μ, h0, fun t H hI => AW_mono (c := x) (fun e t' H' he => ?_) (ih _ t H (hr t H hI))⟩
  cases e with
  | normal => exact he
  | goto l => exact he.elim
  | exit id => exact he
  | ret => exact he
  | panic ch => exact he
  | outgrown => exact he
def Post (n : Nat) (w0 : World) (ρ : Rho) (D : List Deferred) (Q : Exit → Tm → Hp → Prop) : Exit → Act → World → Prop :=
 fun e a w => ∃ ρ' t H, Ext ρ ρ' ∧ RG ρ' n t a ∧ a.defers = D ∧ RH ρ' H w0 w ∧ Q e t H
theorem Post.mono {n : Nat} {w0 : World} {ρ ρ' : Rho} {D : List Deferred} {Q : Exit → Tm → Hp → Prop} (he : Ext ρ ρ') {e : Exit} {a : Act} {w : World} (h : Post n w0 ρ' D Q e a w) : Post n w0 ρ D Q e a w :=
 let ⟨ρ2, t, H, h1, h2⟩ := h
 ⟨ρ2, t, H, he.trans h1, h2⟩
theorem AW_ok {P : Program} {n : Nat} {w0 : World} : ∀ (c : Code) (c' : AC) (Q : Exit → Tm → Hp → Prop) (t : Tm) (H : Hp) (a : Act) (w : World) (ρ : Rho), cC P n c = some c' → AW P c' Q t H → RG ρ n t a → RH ρ H w0 w → c.wp P (Post n w0 ρ a.defers Q) a w := by
 intro c
 induction c with
 | skip =>
  intro c' Q t H a w ρ hc hs hg h
  injection hc with hc
  subst hc
  exact wp_skip ⟨ρ, t, H, Ext.refl _, hg, rfl, h, hs⟩
 | ret =>
  intro c' Q t H a w ρ hc hs hg h
  injection hc with hc
  subst hc
  exact wp_ret ⟨ρ, t, H, Ext.refl _, hg, rfl, h, hs⟩
 | exit id =>
  intro c' Q t H a w ρ hc hs hg h
  injection hc with hc
  subst hc
  exact wp_exit ⟨ρ, t, H, Ext.refl _, hg, rfl, h, hs⟩
 | region id ops draw =>
  intro c' Q t H a w ρ hc hs hg h
  cases draw with
  | false =>
   simp only [cC] at hc
   obtain ⟨os, hos, rfl⟩ := Option.map_eq_some_iff.1 hc
   exact wp_region_list (list_ok ops.toList os t a w ρ H hos hs hg h fun ρ' t' H' a' w' e1 e2 e3 e4 e5 => ⟨ρ', t', H', e1, e2, e3, e4, e5⟩)
  | true =>
   simp only [cC] at hc
   split at hc
   ·rename_i hm
    obtain ⟨p, hp, rfl⟩ := Option.map_eq_some_iff.1 hc
    unfold cDraw at hp
    split at hp
    ·rename_i os hos
     split at hp
     ·rename_i hok
      obtain ⟨hD, hP⟩ := hok
      have hlen := (mapM_get hos).1
      have hsz : ops.size = os.length := by simpa using hlen
      have hw : RH ρ H w0 { w with drawn := w.drawn + 1 } := h.world (Below.refl _ _).drew
      refine wp_region_any hm (plan_ok (ρ0 := ρ) (D := a.defers) (K := Q .normal) hos hD (fun ρ' t' H' a' w' e1 e2 e3 e4 e5 => ⟨ρ', t', H', e1, e2, e3, e4, e5⟩) ops.size (Array.replicate ops.size false) [] _ p t H a a _ ρ ?_ hP hp hs hw (Ext.refl _) rfl ?_)
      ·refine ⟨fun j hj hl => ?_, by simp [hsz], hg.size, hg, fun x _ => rfl, (fun d o hd => by cases hd), (fun d hd => by cases hd)⟩
       have : j < ops.size := by omega
       simp [Array.getD, this] at hl
      ·refine Nat.le_trans (List.length_filter_le _ _) ?_
       simp [hsz]
     ·cases hp
    ·cases hp
   ·cases hc
 | seq x y ihx ihy =>
  intro c' Q t H a w ρ hc hs hg h
  simp only [cC] at hc
  split at hc
  ·rename_i x' y' hx hy
   injection hc with hc
   subst hc
   refine wp_seq (wp_mono (ihx x' _ t H a w ρ hx hs hg h) fun e a' w' hp => ?_)
   obtain ⟨ρ', t', H', e1, e2, e3, e4, e5⟩ := hp
   cases e with
   | normal =>
    have := ihy y' Q t' H' a' w' ρ' hy e5 e2 e4
    rw [e3] at this
    exact wp_mono this fun e a w hp => Post.mono e1 hp
   | exit id => exact ⟨ρ', t', H', e1, e2, e3, e4, e5⟩
   | goto l => exact ⟨ρ', t', H', e1, e2, e3, e4, e5⟩
   | ret => exact ⟨ρ', t', H', e1, e2, e3, e4, e5⟩
   | panic ch => exact ⟨ρ', t', H', e1, e2, e3, e4, e5⟩
   | outgrown => exact ⟨ρ', t', H', e1, e2, e3, e4, e5⟩
  ·cases hc
 | cond c x y ihx ihy =>
  intro c' Q t H a w ρ hc hs hg h
  simp only [cC] at hc
  split at hc
  ·rename_i d x' y' hd hx hy
   injection hc with hc
   subst hc
   obtain ⟨b, hb, hs⟩ := hs
   have hv := rv_bool (hb ▸ ev_rel hg hd)
   cases b with
   | true => exact wp_cond hv (ihx x' Q t H a w ρ hx hs hg h)
   | false => exact wp_cond hv (ihy y' Q t H a w ρ hy hs hg h)
  ·cases hc
 | block id x ih =>
  intro c' Q t H a w ρ hc hs hg h
  simp only [cC] at hc
  obtain ⟨x', hx, rfl⟩ := Option.map_eq_some_iff.1 hc
  refine wp_block (wp_mono (ih x' _ t H a w ρ hx hs hg h) fun e a' w' hp => ?_)
  obtain ⟨ρ', t', H', e1, e2, e3, e4, e5⟩ := hp
  cases e with
  | exit id' =>
   simp only [xBlock] at e5
   simp only [Exit.inBlock]
   split
   ·rename_i hi
    rw [if_pos hi] at e5
    exact ⟨ρ', t', H', e1, e2, e3, e4, e5⟩
   ·rename_i hi
    rw [if_neg hi] at e5
    exact ⟨ρ', t', H', e1, e2, e3, e4, e5⟩
  | normal => exact ⟨ρ', t', H', e1, e2, e3, e4, e5⟩
  | goto l => exact ⟨ρ', t', H', e1, e2, e3, e4, e5⟩
  | ret => exact ⟨ρ', t', H', e1, e2, e3, e4, e5⟩
  | panic ch => exact ⟨ρ', t', H', e1, e2, e3, e4, e5⟩
  | outgrown => exact ⟨ρ', t', H', e1, e2, e3, e4, e5⟩
 | loop x ih =>
  intro c' Q t H a w ρ hc hs hg h
  simp only [cC] at hc
  obtain ⟨x', hx, rfl⟩ := Option.map_eq_some_iff.1 hc
  obtain ⟨I, μ, h0, hround⟩ := hs
  refine wp_loop_n (fun m a' w' => ∃ ρ' t' H', Ext ρ ρ' ∧ RG ρ' n t' a' ∧ a'.defers = a.defers ∧ RH ρ' H' w0 w' ∧ I t' H' ∧ μ t' H' = m) (fun m a' w' hI => ?_) (n := μ t H) ⟨ρ, t, H, Ext.refl _, hg, rfl, h, h0, rfl⟩
  obtain ⟨ρ', t', H', e1, e2, e3, e4, e5, rfl⟩ := hI
  have := ih x' _ t' H' a' w' ρ' hx (hround t' H' e5) e2 e4
  rw [e3] at this
  refine wp_mono this fun e a2 w2 hp => ?_
  obtain ⟨ρ2, t2, H2, f1, f2, f3, f4, f5⟩ := hp
  cases e with
  | normal => exact ⟨μ t2 H2, f5.2, ρ2, t2, H2, e1.trans f1, f2, f3, f4, f5.1, rfl⟩
  | exit id => exact ⟨ρ2, t2, H2, e1.trans f1, f2, f3, f4, f5⟩
  | goto l => exact ⟨ρ2, t2, H2, e1.trans f1, f2, f3, f4, f5⟩
  | ret => exact ⟨ρ2, t2, H2, e1.trans f1, f2, f3, f4, f5⟩
  | panic ch => exact ⟨ρ2, t2, H2, e1.trans f1, f2, f3, f4, f5⟩
  | outgrown => exact ⟨ρ2, t2, H2, e1.trans f1, f2, f3, f4, f5⟩
 | label l =>
  intro c' Q t H a w ρ hc hs hg h
  injection hc with hc
  subst hc
  exact wp_label ⟨ρ, t, H, Ext.refl _, hg, rfl, h, hs⟩
 | scope x ih =>
  intro c' Q t H a w ρ hc hs hg h
  simp only [cC] at hc
  refine wp_scope_straight (wp_mono (ih c' (noG Q) t H a w ρ hc (AW_noG c' Q t H hs) hg h) fun e a' w' hp => ?_)
  obtain ⟨ρ', t', H', e1, e2, e3, e4, e5⟩ := hp
  cases e with
  | normal => exact ⟨ρ', t', H', e1, e2, e3, e4, e5⟩
  | exit id => exact ⟨ρ', t', H', e1, e2, e3, e4, e5⟩
  | goto l => exact e5.elim
  | ret => exact ⟨ρ', t', H', e1, e2, e3, e4, e5⟩
  | panic ch => exact ⟨ρ', t', H', e1, e2, e3, e4, e5⟩
  | outgrown => exact ⟨ρ', t', H', e1, e2, e3, e4, e5⟩
 | _ => intro c' Q t H a w ρ hc; cases hc
inductive AR where
 | tmp (x : Nat)
 | cell (x : Nat)
 | cellA (m x : Nat)
def aRes (t : Tm) (H : Hp) : AR → Option Value
 | .tmp x => some (t x)
 | .cell x => match t x with
  | .pointer (some ⟨b, o, none⟩) => match H.get b o 1 with
   | some [v] => some v
   | _ => none
  | _ => none
 | .cellA m x => match t x with
  | .pointer (some ⟨b, o, none⟩) => (H.get b o m).map fun xs => .agg xs.toArray
  | _ => none
def aResL (t : Tm) (H : Hp) : List AR → Option (List Value)
 | [] => some []
 | r :: rs => match aRes t H r, aResL t H rs with
  | some v, some vs => some (v :: vs)
  | _, _ => none
def aOut (t : Tm) (H : Hp) (rs : List AR) : Option Value :=
 match aResL t H rs with
 | some [v] => some v
 | some vs => if vs.all notTup = true then some (.tuple vs.toArray) else none
 | none => none
def cR (P : Program) (n : Nat) : ResultVar → Option AR
 | .tmp x => if x < n then some (.tmp x) else none
 | .cell x T => if x < n then match isRowT P T with
  | some false => some (.cell x)
  | some true => (sizeT P T).map fun m => .cellA m x
  | none => none
  else none
theorem res_ok {P : Program} {n : Nat} {w0 w : World} {ρ : Rho} {t : Tm} {a : Act} {H : Hp} (hg : RG ρ n t a) (h : RH ρ H w0 w) {r : ResultVar} {r' : AR} (hr : cR P n r = some r') {v : Value} (hv : aRes t H r' = some v) :
  ∃ v', (match r with | .tmp t => pure (a.tmps.getD t undef) | .cell x t => do loadVar t (← asAddr (a.tmps.getD x undef)) : Sem Value).run P w = .ok v' w ∧ RV ρ v v' := by
 unfold cR at hr
 split at hr
 ·rename_i x
  split at hr
  ·rename_i hx
   injection hr with hr
   subst hr
   injection hv with hv
   subst hv
   exact ⟨_, rfl, hg.val x hx⟩
  ·cases hr
 ·rename_i x T
  split at hr
  ·rename_i hx
   have hval := hg.val x hx
   split at hr
   ·rename_i ht
    injection hr with hr
    subst hr
    simp only [aRes] at hv
    split at hv
    ·rename_i b q hp
     split at hv
     ·rename_i u hu
      injection hv with hv
      subst hv
      obtain ⟨l, hl, e⟩ := rv_ptr (hp ▸ hval)
      obtain ⟨l', ys, hl', h2, _, hc⟩ := get_rel h hu
      rw [hl] at hl'
      injection hl' with hl'
      subst hl'
      cases h2 with
      | cons r rest =>
       rename_i y ys
       have := hc 0 y rfl
       rw [add_add, Nat.add_zero] at this
       refine ⟨y, ?_, .one (.one r)⟩
       simp only [e, asAddr, Sem.run_bind, Sem.run_pure, Result.andThen_ok, loadVar, run_isAgg ht]
       simp [this]
     ·cases hv
    ·cases hv
   ·rename_i ht
    obtain ⟨m, hm, rfl⟩ := Option.map_eq_some_iff.1 hr
    simp only [aRes] at hv
    split at hv
    ·rename_i b q hp
     obtain ⟨xs, hxs, rfl⟩ := Option.map_eq_some_iff.1 hv
     obtain ⟨l, hl, e⟩ := rv_ptr (hp ▸ hval)
     obtain ⟨l', ys, hl', h2, hn, hc⟩ := get_rel h hxs
     rw [hl] at hl'
     injection hl' with hl'
     subst hl'
     have hlo := run_loadCells_list (P := P) w (l.a.add q) ys hc
     rw [← h2.length, hn] at hlo
     refine ⟨.agg ys.toArray, ?_, .one (.agg h2)⟩
     simp only [e, asAddr, Sem.run_bind, Sem.run_pure, Result.andThen_ok, loadVar, run_isAgg ht, if_true, run_sizeOf hm, hlo]
    ·cases hv
   ·cases hr
  ·cases hr
theorem resL_ok {P : Program} {n : Nat} {w0 w : World} {ρ : Rho} {t : Tm} {a : Act} {H : Hp} (hg : RG ρ n t a) (h : RH ρ H w0 w) : ∀ {rs : List ResultVar} {rs' : List AR} {vs : List Value}, rs.mapM (cR P n) = some rs' → aResL t H rs' = some vs →
  ∃ vs', (rs.mapM fun r => (match r with | .tmp t => pure (a.tmps.getD t undef) | .cell x t => do loadVar t (← asAddr (a.tmps.getD x undef)) : Sem Value)).run P w = .ok vs' w ∧ All2 (RV ρ) vs vs'
 | [], rs', vs, hr, hv => by
  simp at hr
  subst hr
  injection hv with hv
  subst hv
  exact ⟨[], rfl, .nil⟩
 | r :: rs, rs', vs, hr, hv => by
  simp only [List.mapM_cons, Option.bind_eq_bind, Option.pure_def, Option.bind_eq_some_iff] at hr
  obtain ⟨r', hr', rs'', hrs, he⟩ := hr
  injection he with he
  subst he
  simp only [aResL] at hv
  split at hv
  ·rename_i u us hu hus
   injection hv with hv
   subst hv
   obtain ⟨v', h1, h2⟩ := res_ok hg h hr' hu
   obtain ⟨vs', h3, h4⟩ := resL_ok hg h hrs hus
   refine ⟨v' :: vs', ?_, .cons h2 h4⟩
   simp only [List.mapM_cons, Sem.run_bind, h1, h3, Result.andThen_ok, Sem.run_pure]
  ·cases hv
def Fin (rs : List AR) (K : Value → Hp → Prop) : Exit → Tm → Hp → Prop
 | .normal, t, H => ∃ v, aOut t H rs = some v ∧ K v H
 | .ret, t, H => ∃ v, aOut t H rs = some v ∧ K v H
 | _, _, _ => False
theorem acalls_of {P : Program} {f : FuncId} {fn : Func} {c : Code} {c' : AC} {rs : List AR} {xs : List Value} {H : Hp} {K : Value → Hp → Prop} (hf : P.funcs[f]? = some fn) (hb : fn.body = some c) (hc : cC P fn.ntmps c = some c') (hr : fn.results.toList.mapM (cR P fn.ntmps) = some rs) (hx : xs.length ≤ fn.ntmps)
  (hs : AW P c' (Fin rs K) (fun i => xs.getD i undef) H) : ACalls P f xs H K := by
 intro ρ w0 w ys hxy h
 have hl := hxy.length
 refine calls_of_wp hf hb (wp_mono (AW_ok c c' _ _ H { tmps := ys.toArray ++ Array.replicate (fn.ntmps - ys.toArray.size) undef, defers := [] } w ρ hc hs ⟨by simp; omega, fun i hi => ?_⟩ h) fun e a w' hp => ?_)
 ·simp only [Array.getD_eq_getD_getElem?, List.getD_eq_getElem?_getD]
  by_cases h1 : i < xs.length
  ·obtain ⟨y, hy, hR⟩ := hxy.get i xs[i] (by simp [h1])
   have hy2 : i < ys.length := by omega
   have : ys[i]? = some y := hy
   rw [Array.getElem?_append_left (by simpa using hy2)]
   simp only [List.getElem?_toArray, this, List.getElem?_eq_getElem h1]
   exact hR
  ·rw [Array.getElem?_append_right (by simp; omega)]
   simp only [List.getElem?_eq_none (show xs.length ≤ i by omega), Option.getD_none]
   have : (Array.replicate (fn.ntmps - ys.toArray.size) undef)[i - ys.toArray.size]?.getD undef = undef := by
    cases hq : (Array.replicate (fn.ntmps - ys.toArray.size) undef)[i - ys.toArray.size]? with
    | none => rfl
    | some v =>
     have := Array.getElem?_eq_some_iff.1 hq
     obtain ⟨h2, h3⟩ := this
     simp at h3
     simp [← h3]
   rw [this]
   exact rv_undef _
 ·obtain ⟨ρ', t, H', e1, e2, e3, e4, e5⟩ := hp
  have fin : (∃ v, aOut t H' rs = some v ∧ K v H') → a.defers = [] ∧ ∃ v, (results fn a.tmps).run P w' = .ok v w' ∧ ∃ ρ' u H', Ext ρ ρ' ∧ RV ρ' u v ∧ RH ρ' H' w0 w' ∧ K u H' := by
   intro ⟨v, hv, hk⟩
   refine ⟨e3, ?_⟩
   unfold aOut at hv
   have hres : ∀ {vs}, aResL t H' rs = some vs → ∃ vs', (results fn a.tmps).run P w' = .ok (if h : vs'.toArray.size = 1 then vs'.toArray[0] else .tuple vs'.toArray) w' ∧ All2 (RV ρ') vs vs' := fun {vs} hvs => by
    obtain ⟨vs', h1, h2⟩ := resL_ok e2 e4 hr hvs
    refine ⟨vs', ?_, h2⟩
    unfold results
    simp only [Array.mapM_eq_mapM_toList, Sem.run_bind, Sem.run_map]
    have e0 : ∀ {r : Result (List Value)}, r = .ok vs' w' → ((r.andThen fun a w' => .ok a.toArray w').andThen fun a w' => Sem.run P (pure (if h : a.size = 1 then a[0] else Value.tuple a) : Sem Value) w') = .ok (if h : vs'.toArray.size = 1 then vs'.toArray[0] else .tuple vs'.toArray) w' := by
     rintro _ rfl
     rfl
    exact e0 h1
   split at hv
   ·rename_i u hu
    injection hv with hv
    subst hv
    obtain ⟨vs', h1, h2⟩ := hres hu
    cases h2 with
    | cons r rest => cases rest with
     | nil => exact ⟨_, h1, ρ', u, H', e1, by simpa using r, e4, hk⟩
   ·rename_i vs hne hu
    split at hv
    ·rename_i hall
     injection hv with hv
     subst hv
     obtain ⟨vs', h1, h2⟩ := hres hu
     have hlen := h2.length
     refine ⟨_, h1, ρ', _, H', e1, ?_, e4, hk⟩
     rw [dif_neg (by
      intro h
      have : vs.length = 1 := by simpa [hlen] using h
      match vs, this with
      | [u], _ => exact hne u rfl)]
     refine .tuple ?_
     have : ∀ {us us' : List Value}, us.all notTup = true → All2 (RV ρ') us us' → All2 (RT ρ') us us' := by
      intro us us' hus h
      induction h with
      | nil => exact .nil
      | cons r s ih =>
       simp only [List.all_cons, Bool.and_eq_true] at hus
       refine .cons ?_ (ih hus.2)
       cases r with
       | one r => exact r
       | tuple r => exact absurd hus.1 (by simp [notTup])
     exact this hall h2
    ·cases hv
   ·cases hv
  cases e with
  | normal => exact fin e5
  | ret => exact fin e5
  | exit id => exact e5.elim
  | goto l => exact e5.elim
  | panic ch => exact e5.elim
  | outgrown => exact e5.elim
def cF (P : Program) (fn : Func) : Option (AC × List AR) :=
 match fn.body with
 | some c => match cC P fn.ntmps c, fn.results.toList.mapM (cR P fn.ntmps) with
  | some c, some rs => some (c, rs)
  | _, _ => none
 | none => none
theorem acalls {P : Program} {f : FuncId} {fn : Func} {c : AC} {rs : List AR} {xs : List Value} {H : Hp} {K : Value → Hp → Prop} (hf : P.funcs[f]? = some fn) (hc : cF P fn = some (c, rs)) (hx : xs.length ≤ fn.ntmps) (hs : AW P c (Fin rs K) (fun i => xs.getD i undef) H) : ACalls P f xs H K := by
 unfold cF at hc
 split at hc
 ·rename_i c0 hb
  split at hc
  ·rename_i c1 rs1 hc1 hr1
   injection hc with hc
   injection hc with h1 h2
   subst h1 h2
   exact acalls_of hf hb hc1 hr1 hx hs
  ·cases hc
 ·cases hc
end Go.Proofs.YtjmjkdelkaflmaaGreatDoor.Abs
