/- An abstract machine for the program's text, part 13: the machine does what a plan says. -/
import Derived.Test.YtloeadlmcdddnaaA12
set_option linter.unusedVariables false
set_option linter.unusedSimpArgs false
namespace Go.Proofs.Ytloeadlmcdddnaa.Abs
open Go Go.RowKit
section
variable {P : Program} {n : Nat} {w0 : World} {ops : Array Oper} {os : List AO}
theorem deps_at {j : Nat} {op : Oper} (hp : ops[j]? = some op) : (depsOf ops).getD j [] = (op.after.toList.filter (Region.binds .any)).map (·.on) := by
  have : ops.toList[j]? = some op := by simpa using hp
  simp [depsOf, List.getD_eq_getElem?_getD, this]
theorem ready_deps {j : Nat} {op : Oper} {L : Array Bool} (hp : ops[j]? = some op) (hr : j ∈ Region.ready .any ops L) : L.getD j true = false ∧ ∀ k ∈ (depsOf ops).getD j [], L.getD k false = true := by
  obtain ⟨h1, o, ho, h2⟩ := mem_ready.1 hr
  rw [hp] at ho
  injection ho with ho
  subst ho
  refine ⟨h1, fun k hk => ?_⟩
  rw [deps_at hp] at hk
  obtain ⟨e, he, rfl⟩ := List.mem_map.1 hk
  obtain ⟨he1, he2⟩ := List.mem_filter.1 he
  exact h2 e (by simpa using he1) he2
theorem ready_of {j : Nat} {op : Oper} {L : Array Bool} (hp : ops[j]? = some op) (h1 : L.getD j true = false) (h2 : ∀ k ∈ (depsOf ops).getD j [], L.getD k false = true) : j ∈ Region.ready .any ops L := by
  refine mem_ready.2 ⟨h1, op, hp, fun e he hb => h2 e.on ?_⟩
  rw [deps_at hp]
  exact List.mem_map.2 ⟨e, List.mem_filter.2 ⟨by simpa using he, hb⟩, rfl⟩
theorem mapM_get {f : Oper → Option AO} : ∀ {l : List Oper} {l' : List AO}, l.mapM f = some l' → l.length = l'.length ∧ ∀ (j : Nat) (o : Oper), l[j]? = some o → ∃ o', l'[j]? = some o' ∧ f o = some o'
  | [], l', h => by simp at h; subst h; exact ⟨rfl, fun j o h => by simp at h⟩
  | x :: l, l', h => by
    simp only [List.mapM_cons, Option.bind_eq_bind, Option.pure_def, Option.bind_eq_some_iff] at h
    obtain ⟨y, hy, ys, hys, he⟩ := h
    injection he with he
    subst he
    obtain ⟨h1, h2⟩ := mapM_get hys
    refine ⟨by simp [h1], fun j o hj => ?_⟩
    cases j with
    | zero => simp at hj; subst hj; exact ⟨y, rfl, hy⟩
    | succ j => exact h2 j o (by simpa using hj)
theorem getD_false_true {L : Array Bool} {j : Nat} (h : j < L.size) : L.getD j true = L.getD j false := by simp [Array.getD, h]
theorem set_true {L : Array Bool} {i : Nat} (h : i < L.size) : (L.setIfInBounds i true).getD i true = true := by simp [Array.getD, h]
/-- A quiet operation's outcome at an act that fits. -/
theorem quiet_out {op : Oper} {o : AO} {t : Tm} {H : Hp} {b : Act} {w : World} {ρ : Rho} {x : Nat} (hc : cOp P n ops op = some o) (hd : o.dst = some x) (hq : quiet o.i = true) (hh : aHeld o t H) (hg : RG ρ n t b) (h : RH ρ H w0 w) :
    Outcome P ops op b w fun v' w' => w' = w ∧ RV ρ (t x) v' := by
  obtain ⟨hi, _, _, _⟩ := cOp_spec hc
  obtain ⟨w1, w2⟩ := wanted_of hc hg
  unfold aHeld at hh
  rw [hd] at hh
  simp only at hh
  split at hh
  · rename_i hgn
    obtain ⟨_, v', h1, h2⟩ := (cI_ok hi hh hg h).2 hq
    exact .inl ⟨w1 hgn, .inl ⟨v', w, .inl h1, rfl, h2⟩⟩
  · rename_i g want hgs
    obtain ⟨c, hc1, hh⟩ := hh
    split at hh
    · rename_i hcw
      subst hcw
      obtain ⟨_, v', h1, h2⟩ := (cI_ok hi hh hg h).2 hq
      exact .inl ⟨by rw [w2 g _ _ hgs hc1]; simp, .inl ⟨v', w, .inl h1, rfl, h2⟩⟩
    · rename_i hcw
      exact .inr ⟨by rw [w2 g want c hgs hc1]; simpa using hcw, rfl, by rw [hh]; exact rv_undef _⟩
/-- A quiet operation's step: the value that it sets, and that it is held. -/
theorem quiet_step {op : Oper} {o : AO} {t : Tm} {H : Hp} {b : Act} {w : World} {ρ : Rho} {x : Nat} {K : Tm → Hp → Prop} (hc : cOp P n ops op = some o) (hd : o.dst = some x) (hq : quiet o.i = true) (hr : x ∉ o.reads) (hs : aStep P o K t H) (hg : RG ρ n t b) (h : RH ρ H w0 w) :
    ∃ v v', RV ρ v v' ∧ K (upd t o.dst v) H ∧ aHeld o (upd t o.dst v) H := by
  obtain ⟨hi, _, _, _⟩ := cOp_spec hc
  have hne : ∀ f xs, o.i ≠ .call f xs := fun f xs e => by rw [e] at hq; cases hq
  have hrun : ∀ {K : Value → Hp → Prop}, aRun P o.i (ev t) H K → ∃ v H', aI o.i (ev t) H = some (v, H') ∧ K v H' := fun {K} hr => by
    unfold aRun at hr
    split at hr
    · rename_i f xs e; exact absurd e (hne f xs)
    · exact hr
  have hrd : ∀ v, ∀ y ∈ o.reads, upd t o.dst v y = t y := fun v y hy => by
    rw [hd]
    simp only [upd]
    split
    · rename_i e; subst e; exact absurd hy hr
    · rfl
  have hset : ∀ v, upd t o.dst v x = v := fun v => by rw [hd]; simp [upd]
  have hev : ∀ v, aI o.i (ev (upd t o.dst v)) H = aI o.i (ev t) H := fun v => aI_congr (reads_ev (hrd v))
  unfold aStep at hs
  split at hs
  · rename_i hgn
    obtain ⟨v, H', hv, hk⟩ := hrun hs
    obtain ⟨he, v', _, h2⟩ := (cI_ok hi hv hg h).2 hq
    subst he
    refine ⟨v, v', h2, hk, ?_⟩
    unfold aHeld
    rw [hd]
    simp only [hgn]
    rw [← hd, hev, hset]
    exact hv
  · rename_i g want hgs
    obtain ⟨c, hc1, hs⟩ := hs
    split at hs
    · rename_i hcw
      obtain ⟨v, H', hv, hk⟩ := hrun hs
      obtain ⟨he, v', _, h2⟩ := (cI_ok hi hv hg h).2 hq
      subst he
      refine ⟨v, v', h2, hk, ?_⟩
      unfold aHeld
      rw [hd]
      simp only [hgs]
      refine ⟨c, ?_, ?_⟩
      · have := hrd v g (by simp [AO.reads, hgs])
        rw [hd] at this
        rw [this]
        exact hc1
      · rw [if_pos hcw, ← hd, hev, hset]
        exact hv
    · rename_i hcw
      refine ⟨undef, undef, rv_undef _, hs, ?_⟩
      unfold aHeld
      rw [hd]
      simp only [hgs]
      refine ⟨c, ?_, ?_⟩
      · have := hrd undef g (by simp [AO.reads, hgs])
        rw [hd] at this
        rw [this]
        exact hc1
      · rw [if_neg hcw, ← hd, hset]
theorem heldAll_get {cs : List AO} {t : Tm} {H : Hp} (h : heldAll cs t H) : ∀ c ∈ cs, aHeld c t H := by
  induction cs with
  | nil => intro c hc; cases hc
  | cons x cs ih =>
    intro c hc
    rcases List.mem_cons.1 hc with rfl | hc
    · exact h.1
    · exact ih h.2 c hc
theorem mapM_os {cs : List Nat} {l : List AO} (h : cs.mapM (os[·]?) = some l) : ∀ d ∈ cs, ∀ o, os[d]? = some o → o ∈ l := by
  induction cs generalizing l with
  | nil => intro d hd; cases hd
  | cons c cs ih =>
    simp only [List.mapM_cons, Option.bind_eq_bind, Option.pure_def, Option.bind_eq_some_iff] at h
    obtain ⟨y, hy, ys, hys, he⟩ := h
    injection he with he
    subst he
    intro d hd o ho
    rcases List.mem_cons.1 hd with rfl | hd
    · rw [hy] at ho
      injection ho with ho
      subst ho
      simp
    · exact List.mem_cons_of_mem _ (ih hys d hd o ho)
/-- THE LAW OF PLANS. -/
theorem plan_ok {Q : Exit → Act → World → Prop} {K : Tm → Hp → Prop} {ρ0 : Rho} {D : List Deferred} (hm : ops.toList.mapM (cOp P n ops) = some os) (hD : okD ops os (depsOf ops) = true)
    (hQ : ∀ ρ' t' H' a' w', Ext ρ0 ρ' → RG ρ' n t' a' → a'.defers = D → RH ρ' H' w0 w' → K t' H' → Q .normal a' w') :
    ∀ (fuel : Nat) (L : Array Bool) (A : List Nat) (ip : IP) (p : AP) (t : Tm) (H : Hp) (a b : Act) (w : World) (ρ : Rho), Inv n ops os (depsOf ops) A L t H a b ρ → okP ops os (depsOf ops) none A ip = true → inl os ip = some p → AWp P p K t H → RH ρ H w0 w → Ext ρ0 ρ → a.defers = D →
      ((List.range os.length).filter fun j => !L.getD j true).length ≤ fuel → wpAny P .any ops Q fuel L a w := by
  obtain ⟨hlen, hget⟩ := mapM_get hm
  have hsz : ops.size = os.length := by simpa using hlen
  have hop : ∀ {j : Nat}, j < os.length → ∃ op o, ops[j]? = some op ∧ os[j]? = some o ∧ cOp P n ops op = some o := fun {j} hj => by
    have : j < ops.size := by omega
    obtain ⟨o', h1, h2⟩ := hget j ops[j] (by simp [this])
    exact ⟨ops[j], o', by simp [this], h1, h2⟩
  -- all are listed: the end
  have fin : ∀ {L A ip p t H a b w ρ}, Inv n ops os (depsOf ops) A L t H a b ρ → okP ops os (depsOf ops) none A ip = true → inl os ip = some p → AWp P p K t H → RH ρ H w0 w → Ext ρ0 ρ → a.defers = D → (∀ j, j < os.length → L.getD j true = true) → Q .normal a w := by
    intro L A ip p t H a b w ρ hI hp hl hs hR he hd hall
    have hA : ∀ j, j < os.length → j ∈ A := fun j hj => hI.listed j hj (hall j hj)
    have hab : RG ρ n t a := by
      refine ⟨hI.asz, fun i hi => ?_⟩
      have := hI.same i fun d o hdA hdL ho => by
        have hdl := (List.getElem?_eq_some_iff.1 ho).1
        rw [hall d hdl] at hdL
        cases hdL
      have h2 := hI.rg.val i hi
      rw [Array.getD_eq_getD_getElem?] at h2 ⊢
      rw [this]
      exact h2
    cases ip with
    | done =>
      injection hl with hl
      subst hl
      exact hQ ρ t H a w he hab hd hR hs
    | stop => cases hp
    | quiet i rest =>
      simp only [okP, Bool.and_eq_true, decide_eq_true_eq, Bool.not_eq_true'] at hp
      have := hA i hp.1.1.1.1
      simp [this] at hp
    | br i cs rest more =>
      simp only [okP, Bool.and_eq_true, decide_eq_true_eq, Bool.not_eq_true'] at hp
      have := hA i hp.1.1.1.1.1
      simp [this] at hp
  have allReady : ∀ {L : Array Bool}, Region.ready .any ops L = [] → L.size = os.length → ∀ j, j < os.length → L.getD j true = true := by
    intro L hr hs j
    induction j using Nat.strongRecOn with
    | _ j ih =>
      intro hj
      obtain ⟨op, o, h1, h2, h3⟩ := hop hj
      cases hq : L.getD j true with
      | true => rfl
      | false =>
        have : j ∈ Region.ready .any ops L := ready_of h1 hq fun k hk => by
          have hlt := okD_lt hD hj hk
          have := ih k hlt (by omega)
          rwa [getD_false_true (by omega)] at this
        rw [hr] at this
        cases this
  intro fuel
  induction fuel with
  | zero =>
    intro L A ip p t H a b w ρ hI hp hl hs hR he hd hcnt
    have hnil : (List.range os.length).filter (fun j => !L.getD j true) = [] := List.eq_nil_of_length_eq_zero (by omega)
    have hall : ∀ j, j < os.length → L.getD j true = true := fun j hj => by
      cases hq : L.getD j true with
      | true => rfl
      | false =>
        have : j ∈ (List.range os.length).filter (fun j => !L.getD j true) := List.mem_filter.2 ⟨List.mem_range.2 hj, by rw [hq]; rfl⟩
        rw [hnil] at this
        cases this
    refine ⟨?_, fin hI hp hl hs hR he hd hall⟩
    cases hr : Region.ready .any ops L with
    | nil => rfl
    | cons i rest =>
      obtain ⟨h1, op, ho, _⟩ := mem_ready.1 (show i ∈ Region.ready .any ops L by rw [hr]; simp)
      rw [hall i (by rw [← hsz]; exact (Array.getElem?_eq_some_iff.1 ho).1)] at h1
      cases h1
  | succ fuel IH =>
    intro L A ip p t H a b w ρ hI hp hl hs hR he hd hcnt
    refine ⟨fun hr => fin hI hp hl hs hR he hd (allReady hr hI.size), fun i hi => ?_⟩
    obtain ⟨hiL, op, hio, _⟩ := mem_ready.1 hi
    have hilt : i < os.length := by rw [← hsz]; exact (Array.getElem?_eq_some_iff.1 hio).1
    obtain ⟨op', o, e1, hoi, hco⟩ := hop hilt
    rw [hio] at e1
    injection e1 with e1
    subst e1
    obtain ⟨_, hdeps⟩ := ready_deps hio hi
    have hsel := cI_sel (cOp_spec hco).1
    have hdst : o.dst = op.dst := (cOp_spec hco).2.1
    have hdn := (cOp_spec hco).2.2.1
    have hcnt' : ((List.range os.length).filter fun j => !(L.setIfInBounds i true).getD j true).length ≤ fuel := by
      have hlt := filt_lt (p := fun j => !L.getD j true) (q := fun j => !(L.setIfInBounds i true).getD j true) (i := i) (List.range os.length) (fun x hx => by
        by_cases hxi : i = x
        · subst hxi
          rw [set_true (by rw [hI.size]; exact hilt)] at hx
          cases hx
        · rw [getD_set_ne true hxi] at hx
          exact hx) (List.mem_range.2 hilt) (by rw [hiL]; rfl) (by rw [set_true (by rw [hI.size]; exact hilt)]; rfl)
      omega
    have hL' : ∀ d, (L.setIfInBounds i true).getD d true = false → d ≠ i ∧ L.getD d true = false := fun d hd => by
      by_cases hdi : i = d
      · subst hdi
        rw [set_true (by rw [hI.size]; exact hilt)] at hd
        cases hd
      · rw [getD_set_ne true hdi] at hd
        exact ⟨Ne.symm hdi, hd⟩
    have hLt : ∀ d, (L.setIfInBounds i true).getD d true = true → d = i ∨ L.getD d true = true := fun d hd => by
      by_cases hdi : i = d
      · exact .inl hdi.symm
      · rw [getD_set_ne true hdi] at hd
        exact .inr hd
    -- what i looks at is as in the act that fits
    have hlook : ∀ {A t H b ρ}, Inv n ops os (depsOf ops) A L t H a b ρ → execOp a.eval op = execOp b.eval op ∧ Region.wanted op (yielded ops a.tmps) = Region.wanted op (yielded ops b.tmps) := by
      intro A t H b ρ hI
      refine exec_same hsel fun x hx => hI.same x fun d od hdA hdL hod hdx => ?_
      have := alone_spec ((hI.held d od hdA hdL hod).2.2 x hdx) hoi hio (.inl hx)
      have h1 := hdeps d this
      rw [← getD_false_true (by rw [hI.size]; exact (List.getElem?_eq_some_iff.1 hod).1), hdL] at h1
      cases h1
    -- the machine takes i: along the plan
    suffices inner : ∀ (ip : IP) (mode : Option (List Nat)) (A : List Nat) (p : AP) (t : Tm) (b : Act), Inv n ops os (depsOf ops) A L t H a b ρ → okP ops os (depsOf ops) mode A ip = true → (∀ cov, mode = some cov → i ∉ cov ∧ i ∉ A) → inl os ip = some p → AWp P p K t H →
        wpOp P ops Q i (wpAny P .any ops Q fuel (L.setIfInBounds i true)) a w from inner ip none A p t b hI hp (fun cov h => by cases h) hl hs
    -- i was taken early
    have early : ∀ (ip : IP) (A : List Nat) (p : AP) (t : Tm) (b : Act), Inv n ops os (depsOf ops) A L t H a b ρ → okP ops os (depsOf ops) none A ip = true → i ∈ A → inl os ip = some p → AWp P p K t H →
        wpOp P ops Q i (wpAny P .any ops Q fuel (L.setIfInBounds i true)) a w := by
      intro ip A p t b hI hp hiA hl hs
      obtain ⟨hq, hh, _⟩ := hI.held i o hiA hiL hoi
      have hx : ∃ x, o.dst = some x := by
        cases hx : o.dst with
        | none => unfold aHeld at hh; rw [hx] at hh; exact hh.elim
        | some x => exact ⟨x, rfl⟩
      obtain ⟨x, hx⟩ := hx
      have hout := (quiet_out hco hx hq hh hI.rg hR).same (hlook hI)
      unfold wpOp
      rw [hio]
      refine hout.wp fun v' w' hf => ?_
      obtain ⟨hw, hv⟩ := hf
      rw [hw]
      have hxn := hdn x (by rw [← hdst]; exact hx)
      refine IH _ A ip p t H (a.put op.dst v') (b.put op.dst v') w ρ ⟨fun j hj hjl => ?_, by simpa using hI.size, by cases op.dst <;> simpa [Act.put] using hI.asz, ?_, fun y hy => ?_, fun d od hdA hdL hod => hI.held d od hdA (hL' d hdL).2 hod, hI.down⟩ hp hl hs hR he (by rw [put_defers]; exact hd) hcnt'
      · rcases hLt j hjl with rfl | h
        · exact hiA
        · exact hI.listed j hj h
      · have := hI.rg.put (d := op.dst) hdn hv
        have e : upd t op.dst (t x) = t := by
          rw [← hdst, hx]
          funext y
          simp only [upd]
          split
          · rename_i h; rw [h]
          · rfl
        rwa [e] at this
      · rw [put_get, put_get, hI.asz, hI.rg.size]
        split
        · rfl
        · rename_i hne
          refine hI.same y fun d od hdA hdL hod hdx => ?_
          by_cases hdi : i = d
          · subst hdi
            rw [hoi] at hod
            injection hod with hod
            subst hod
            exact hne (hdst ▸ hdx)
          · exact hy d od hdA (by rw [getD_set_ne true hdi]; exact hdL) hod hdx
    intro ip
    induction ip with
    | done =>
      intro mode A p t b hI hp hmode hl hs
      cases mode with
      | none =>
        refine early .done A p t b hI hp ?_ hl hs
        simp only [okP] at hp
        exact all_contains hp i (List.mem_range.2 hilt)
      | some cov => cases hp
    | stop =>
      intro mode A p t b hI hp hmode hl hs
      cases mode with
      | none => cases hp
      | some cov =>
        obtain ⟨h1, h2⟩ := hmode cov rfl
        simp only [okP] at hp
        refine absurd (all_contains hp i (List.mem_filter.2 ⟨List.mem_range.2 hilt, ?_⟩)) h1
        simp only [Bool.and_eq_true, Bool.not_eq_true', List.contains_eq_mem, decide_eq_false_iff_not]
        refine ⟨h2, List.all_eq_true.2 fun k hk => ?_⟩
        have hkl := hdeps k hk
        have hlt := okD_lt hD hilt hk
        simpa using hI.listed k (by omega) (by rw [getD_false_true (by rw [hI.size]; omega)]; exact hkl)
    | quiet j rest ih =>
      intro mode A p t b hI hp hmode hl hs
      cases mode with
      | some cov => cases hp
      | none =>
        by_cases hiA : i ∈ A
        · exact early _ A p t b hI hp hiA hl hs
        have hp0 := hp
        simp only [okP, Bool.and_eq_true, decide_eq_true_eq, Bool.not_eq_true', List.contains_eq_mem, decide_eq_false_iff_not] at hp
        obtain ⟨⟨⟨⟨hjl, hjA⟩, hjd⟩, hjq⟩, hpr⟩ := hp
        obtain ⟨opj, oj, hopj, hoj, hcj⟩ := hop hjl
        simp only [inl, hoj] at hl
        split at hl
        · rename_i o1 r ho1 hr
          injection ho1 with ho1
          subst ho1
          injection hl with hl
          subst hl
          simp only [AWp] at hs
          simp only [quietAt, hoj, Bool.and_eq_true] at hjq
          obtain ⟨hq, hjq⟩ := hjq
          have hxx : ∃ x, oj.dst = some x ∧ alone ops os (depsOf ops) j x = true := by
            split at hjq
            · rename_i x hx
              exact ⟨x, hx, hjq⟩
            · cases hjq
          obtain ⟨x, hx, hal⟩ := hxx
          have halj : ∀ y, oj.dst = some y → alone ops os (depsOf ops) j y = true := fun y hy => by
            rw [hx] at hy
            injection hy with hy
            rw [← hy]
            exact hal
          have hself : ∀ x, oj.dst = some x → x ∉ oj.reads := fun x hx hr => by
            have := okD_lt hD hjl (alone_spec (halj x hx) hoj hopj (.inr hr))
            omega
          obtain ⟨v, v', hv, hk, hh⟩ := quiet_step hcj hx hq (hself x hx) hs hI.rg hR
          have hjdst : oj.dst = opj.dst := (cOp_spec hcj).2.1
          have hjn := (cOp_spec hcj).2.2.1
          have hjL : L.getD j true = false := by
            cases hq : L.getD j true with
            | false => rfl
            | true => exact absurd (hI.listed j hjl hq) hjA
          refine ih none (j :: A) r _ (b.put oj.dst v') ⟨fun k hk h => List.mem_cons_of_mem _ (hI.listed k hk h), hI.size, hI.asz, hI.rg.put (fun y hy => hjn y (hjdst ▸ hy)) hv, fun y hy => ?_, fun d od hdA hdL hod => ?_, fun d hd k hk => ?_⟩ hpr (fun cov h => by cases h) hr hk
          · rw [put_get]
            split
            · rename_i hjy
              exact absurd hjy (hy j oj (by simp) hjL hoj)
            · exact hI.same y fun d od hdA hdL hod => hy d od (List.mem_cons_of_mem _ hdA) hdL hod
          · rcases List.mem_cons.1 hdA with rfl | hdA
            · rw [hoj] at hod
              injection hod with hod
              subst hod
              exact ⟨hq, hh, halj⟩
            · obtain ⟨h1, h2, h3⟩ := hI.held d od hdA hdL hod
              have hdlt := (List.getElem?_eq_some_iff.1 hod).1
              obtain ⟨opd, od', hopd, hod', _⟩ := hop hdlt
              refine ⟨h1, aHeld_upd h1 h2 (.inr rfl) fun y hy => ⟨?_, fun hr => ?_⟩, h3⟩
              · rcases (okD_spec hD hod hoj hopd hy).1 with h | h
                · exact absurd (by rw [← h]; exact hdA) hjA
                · exact h
              · exact hjA (hI.down d hdA j (alone_spec (halj y hy) hod hopd (.inr hr)))
          · rcases List.mem_cons.1 hd with rfl | hd
            · exact List.mem_cons_of_mem _ (by simpa using List.all_eq_true.1 hjd k hk)
            · exact List.mem_cons_of_mem _ (hI.down d hd k hk)
        · cases hl
    | br j cs rest more ihr ihm =>
      intro mode A p t b hI hp hmode hl hs
      by_cases hiA : i ∈ A
      · cases mode with
        | none => exact early _ A p t b hI hp hiA hl hs
        | some cov => exact absurd hiA (hmode cov rfl).2
      have hp' : (decide (j < os.length) && !A.contains j && ((depsOf ops).getD j []).all (A.contains ·) && (A.all fun d => !looksAt os d || ((depsOf ops).getD j []).contains d || cs.contains d) && okP ops os (depsOf ops) none (j :: A) rest && okP ops os (depsOf ops) (some (j :: mode.getD [])) A more) = true := by
        cases mode <;> exact hp
      simp only [Bool.and_eq_true, decide_eq_true_eq, Bool.not_eq_true', List.contains_eq_mem, decide_eq_false_iff_not] at hp'
      obtain ⟨⟨⟨⟨⟨hjl, hjA⟩, hjd⟩, hchk⟩, hpr⟩, hpm⟩ := hp'
      simp only [inl] at hl
      split at hl
      · rename_i oj l r m hoj hcs hr hm'
        injection hl with hl
        subst hl
        simp only [AWp] at hs
        by_cases hij : i = j
        · subst hij
          rw [hoi] at hoj
          injection hoj with hoj
          subst hoj
          have hout := (step_out hco hs.1 hI.rg hR).same (hlook hI)
          unfold wpOp
          rw [hio]
          refine hout.wp fun v' w' hf => ?_
          obtain ⟨ρ', v, H', e1, e2, e3, hheld, hrest⟩ := hf
          refine IH _ (i :: A) rest r _ H' (a.put op.dst v') (b.put op.dst v') w' ρ' ⟨fun k hk h => ?_, by simpa using hI.size, by cases op.dst <;> simpa [Act.put] using hI.asz, (hI.rg.ext e1).put hdn e2, fun y hy => ?_, fun d od hdA hdL hod => ?_, fun d hd k hk => ?_⟩ hpr hr hrest e3 (he.trans e1) (by rw [put_defers]; exact hd) hcnt'
          · rcases hLt k h with rfl | h
            · simp
            · exact List.mem_cons_of_mem _ (hI.listed k hk h)
          · rw [put_get, put_get, hI.asz, hI.rg.size]
            split
            · rfl
            · exact hI.same y fun d od hdA hdL hod hdx => hy d od (List.mem_cons_of_mem _ hdA) (by
                rw [getD_set_ne true (fun (h : i = d) => hiA (by rw [h]; exact hdA))]
                exact hdL) hod hdx
          · obtain ⟨hdi, hdL⟩ := hL' d hdL
            have hdA : d ∈ A := by
              rcases List.mem_cons.1 hdA with h | h
              · exact absurd h hdi
              · exact h
            obtain ⟨h1, h2, h3⟩ := hI.held d od hdA hdL hod
            refine ⟨h1, ?_, h3⟩
            have hdlt := (List.getElem?_eq_some_iff.1 hod).1
            obtain ⟨opd, od', hopd, hod', _⟩ := hop hdlt
            cases hlk : looks od.i with
            | true =>
              have hc := List.all_eq_true.1 hchk d hdA
              simp only [looksAt, hod, hlk, Bool.not_true, Bool.false_or, Bool.or_eq_true, decide_eq_true_eq] at hc
              rcases hc with hc | hc
              · have := hdeps d hc
                rw [← getD_false_true (by rw [hI.size]; exact hdlt), hdL] at this
                cases this
              · have := heldAll_get hheld od (mapM_os hcs d hc od hod)
                exact this
            | false =>
              refine aHeld_upd h1 h2 (.inl hlk) fun y hy => ⟨?_, fun hrd => ?_⟩
              · rcases (okD_spec hD hod hoi hopd (hdst ▸ hy)).1 with h | h
                · exact absurd h hdi
                · exact h
              · rcases (okD_spec hD hod hoi hopd (hdst ▸ hy)).2 (.inr hrd) with h | h | h
                · exact hdi h
                · exact hiA (hI.down d hdA i h)
                · have := hdeps d h
                  rw [← getD_false_true (by rw [hI.size]; exact hdlt), hdL] at this
                  cases this
          · rcases List.mem_cons.1 hd with rfl | hd
            · exact List.mem_cons_of_mem _ (by simpa using List.all_eq_true.1 hjd k hk)
            · exact List.mem_cons_of_mem _ (hI.down d hd k hk)
        · refine ihm (some (j :: mode.getD [])) A m t b hI hpm (fun cov h => ?_) hm' hs.2
          injection h with h
          subst h
          refine ⟨fun hc => ?_, hiA⟩
          rcases List.mem_cons.1 hc with h | h
          · exact hij h
          · cases mode with
            | none => cases h
            | some cov => exact (hmode cov rfl).1 h
      · cases hl
end
end Go.Proofs.Ytloeadlmcdddnaa.Abs
