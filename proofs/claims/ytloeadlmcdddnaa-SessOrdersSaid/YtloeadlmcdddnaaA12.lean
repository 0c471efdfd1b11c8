/- An abstract machine for the program's text, part 12: regions whose order is drawn. -/
import Derived.Test.YtloeadlmcdddnaaA11
set_option linter.unusedVariables false
set_option linter.unusedSimpArgs false
namespace Go.Proofs.Ytloeadlmcdddnaa.Abs
open Go Go.RowKit
/-- A plan by numbers. -/
inductive IP where
  | done
  | stop
  | quiet (i : Nat) (rest : IP)
  | br (i : Nat) (cs : List Nat) (rest more : IP)
def inl (os : List AO) : IP → Option AP
  | .done => some .done
  | .stop => some .stop
  | .quiet i rest => match os[i]?, inl os rest with
    | some o, some r => some (.quiet o r)
    | _, _ => none
  | .br i cs rest more => match os[i]?, cs.mapM (os[·]?), inl os rest, inl os more with
    | some o, some l, some r, some m => some (.br o l r m)
    | _, _, _, _ => none
def oT : Opd → Option Nat
  | .s i => some i
  | .c _ => none
def AI.opds : AI → List Opd
  | .mov x | .box _ _ x | .load x | .loadA _ x | .nilck x | .un _ x | .conv _ x | .str x | .same x | .bytesS _ x | .fadr _ x | .ext _ x | .len _ x => [x]
  | .pick c a b => [c, a, b]
  | .alloc _ _ | .lenK _ => []
  | .build _ ps | .lit _ _ _ _ ps => ps.map (·.2.2)
  | .store _ x v | .bin _ _ x v | .eqA _ _ x v | .make _ _ _ x v | .iadr _ x v | .iadrA _ _ x v | .idxS x v | .idxA _ _ _ x v | .append _ _ _ x v | .appendZ _ _ _ _ x v | .copy _ x v | .minmax _ x v => [x, v]
  | .cut _ x l h | .cutS x l h | .cutA _ _ x l h => x :: (l.toList ++ h.toList)
  | .call _ xs => xs
def AO.reads (o : AO) : List Nat := o.i.opds.filterMap oT ++ (match o.g with | some (g, _) => [g] | none => [])
theorem aI_congr {i : AI} {g g' : Opd → Value} {H : Hp} (h : ∀ x ∈ i.opds, g x = g' x) : aI i g H = aI i g' H := by
  have opt : ∀ (l : Option Opd), (∀ x ∈ l.toList, g x = g' x) → l.map g = l.map g' := fun l hl => by
    cases l with
    | none => rfl
    | some x => simp only [Option.map_some]; rw [hl x (by simp)]
  have lst : ∀ (l : List (Nat × Nat × Opd)), (∀ x ∈ l.map (·.2.2), g x = g' x) → (l.map fun p => (p.1, p.2.1, g p.2.2)) = (l.map fun p => (p.1, p.2.1, g' p.2.2)) := fun l hl => List.map_congr_left fun p hp => by rw [hl p.2.2 (List.mem_map.2 ⟨p, hp, rfl⟩)]
  cases i <;> simp only [AI.opds, List.mem_cons, List.mem_append, List.not_mem_nil, or_false, forall_eq_or_imp, forall_eq] at h <;> simp only [aI]
  case build z ps => rw [lst ps h]
  case lit e sz n z ps => rw [lst ps h]
  case cut sz x lo hi => rw [h.1, opt lo fun x hx => h.2 x (.inl hx), opt hi fun x hx => h.2 x (.inr hx)]
  case cutS x lo hi => rw [h.1, opt lo fun x hx => h.2 x (.inl hx), opt hi fun x hx => h.2 x (.inr hx)]
  case cutA n sz x lo hi => rw [h.1, opt lo fun x hx => h.2 x (.inl hx), opt hi fun x hx => h.2 x (.inr hx)]
  all_goals first
    | rfl
    | rw [h]
    | rw [h.1, h.2]
    | rw [h.1, h.2.1, h.2.2]
/-- Where a quiet instruction doesn't look at the blocks. -/
theorem aI_blind {i : AI} {g : Opd → Value} {H H' : Hp} {v : Value} (hq : quiet i = true) (hl : looks i = false) (h : aI i g H = some (v, H)) : aI i g H' = some (v, H') := by
  have e : ∀ {u : Value} {x : Value}, some (u, H) = some (x, H) → u = x := fun h => by injection h with h; injection h
  cases i <;> first
    | (cases hq; done)
    | (cases hl; done)
    | skip
  all_goals
    simp only [aI] at h ⊢
    revert h
    repeat' split
    all_goals first
      | (intro h; injection h with h; injection h with h1 h2; subst h1; rfl)
      | (intro h; cases h; done)
      | (intro h; obtain ⟨u, hu, he⟩ := Option.map_eq_some_iff.1 h; injection he with h1 h2; subst h1; exact Option.map_eq_some_iff.2 ⟨u, hu, rfl⟩)
def depsOf (ops : Array Oper) : List (List Nat) := ops.toList.map fun o => (o.after.toList.filter (Region.binds .any)).map (·.on)
def readyL (m : Nat) (deps : List (List Nat)) (A : List Nat) : List Nat := (List.range m).filter fun j => !A.contains j && (deps.getD j []).all (A.contains ·)
/-- Who looks at what the operation sets is behind it. -/
def alone (ops : Array Oper) (os : List AO) (deps : List (List Nat)) (j : Nat) (x : Nat) : Bool :=
  (List.range os.length).all fun k => match os[k]?, ops[k]? with
    | some ok, some op => (!(op.looksAt ops).contains x && !ok.reads.contains x) || (deps.getD k []).contains j
    | _, _ => false
def quietAt (ops : Array Oper) (os : List AO) (deps : List (List Nat)) (j : Nat) : Bool := match os[j]? with
  | some o => quiet o.i && (match o.dst with
    | some x => alone ops os deps j x
    | none => false)
  | none => false
def looksAt (os : List AO) (j : Nat) : Bool := match os[j]? with
  | some o => looks o.i
  | none => false
def mkP (ops : Array Oper) (os : List AO) (deps : List (List Nat)) : Nat → List Nat → IP
  | 0, _ => .stop
  | f + 1, A =>
    let r := readyL os.length deps A
    match r.find? (quietAt ops os deps) with
    | some i => .quiet i (mkP ops os deps f (i :: A))
    | none => if r.isEmpty = true then .done else r.foldr (fun i more => .br i (A.filter fun d => looksAt os d && !(deps.getD i []).contains d) (mkP ops os deps f (i :: A)) more) .stop
/-- Is it a plan? -/
def okP (ops : Array Oper) (os : List AO) (deps : List (List Nat)) : Option (List Nat) → List Nat → IP → Bool
  | none, A, .done => (List.range os.length).all (A.contains ·)
  | none, A, .quiet i rest => decide (i < os.length) && !A.contains i && (deps.getD i []).all (A.contains ·) && quietAt ops os deps i && okP ops os deps none (i :: A) rest
  | mode, A, .br i cs rest more => decide (i < os.length) && !A.contains i && (deps.getD i []).all (A.contains ·) && (A.all fun d => !looksAt os d || (deps.getD i []).contains d || cs.contains d) && okP ops os deps none (i :: A) rest && okP ops os deps (some (i :: mode.getD [])) A more
  | some cov, A, .stop => (readyL os.length deps A).all (cov.contains ·)
  | _, _, _ => false
/-- Each temporary is set once; what is looked at was set by an operation that must be ahead. -/
def okD (ops : Array Oper) (os : List AO) (deps : List (List Nat)) : Bool :=
  (List.range os.length).all fun j => (deps.getD j []).all (fun k => decide (k < j)) &&
    (List.range os.length).all fun k => match os[j]?, os[k]?, ops[j]? with
      | some oj, some ok, some op => match ok.dst with
        | some x => (j == k || !(oj.dst == some x)) && (j == k || (!(op.looksAt ops).contains x && !oj.reads.contains x) || (deps.getD j []).contains k || (deps.getD k []).contains j)
        | none => true
      | _, _, _ => false
def cDraw (P : Program) (n : Nat) (ops : Array Oper) : Option AP :=
  match ops.toList.mapM (cOp P n ops) with
  | some os => if okD ops os (depsOf ops) = true ∧ okP ops os (depsOf ops) none [] (mkP ops os (depsOf ops) (os.length + 1) []) = true then inl os (mkP ops os (depsOf ops) (os.length + 1) []) else none
  | none => none

section
variable {P : Program} {n : Nat} {w0 : World} {ops : Array Oper} {os : List AO}
theorem cI_sel {o : Oper} {i : AI} (h : cI P n o = some i) : ∀ cs b, o.op ≠ .select cs b := by
  intro cs b e
  unfold cI at h
  rw [e] at h
  cases h
theorem exec_same {op : Oper} {a a' : Act} (hsel : ∀ cs b, op.op ≠ .select cs b) (h : ∀ x ∈ op.looksAt ops, a.tmps[x]? = a'.tmps[x]?) : execOp a.eval op = execOp a'.eval op ∧ Region.wanted op (yielded ops a.tmps) = Region.wanted op (yielded ops a'.tmps) := by
  refine ⟨execOp_congr op hsel fun x hx => ?_, ?_⟩
  · cases x with
    | tmp i =>
      have := h i (List.mem_append_left _ (List.mem_filterMap.2 ⟨.tmp i, by simpa using hx, rfl⟩))
      simp only [Act.eval, Array.getD_eq_getD_getElem?, this]
    | const v => rfl
    | global g => rfl
    | func f => rfl
  · unfold Region.wanted
    cases hg : op.guard with
    | none => rfl
    | some q =>
      obtain ⟨j, want⟩ := q
      simp only
      have : yielded ops a.tmps j = yielded ops a'.tmps j := by
        unfold yielded
        cases hd : (ops[j]?).bind (·.dst) with
        | none => rfl
        | some x =>
          have := h x (List.mem_append_right _ (by simp [hg, hd]))
          simp only [Option.bind_some, this]
      rw [this]
theorem Outcome.same {op : Oper} {a a' : Act} {w : World} {F : Value → World → Prop} (h : execOp a.eval op = execOp a'.eval op ∧ Region.wanted op (yielded ops a.tmps) = Region.wanted op (yielded ops a'.tmps)) (ho : Outcome P ops op a' w F) : Outcome P ops op a w F := by
  unfold Outcome
  rw [h.1, h.2]
  exact ho
structure Inv (n : Nat) (ops : Array Oper) (os : List AO) (deps : List (List Nat)) (A : List Nat) (L : Array Bool) (t : Tm) (H : Hp) (a b : Act) (ρ : Rho) : Prop where
  listed : ∀ j, j < os.length → L.getD j true = true → j ∈ A
  size : L.size = os.length
  asz : a.tmps.size = n
  rg : RG ρ n t b
  same : ∀ x, (∀ d o, d ∈ A → L.getD d true = false → os[d]? = some o → o.dst ≠ some x) → a.tmps[x]? = b.tmps[x]?
  held : ∀ d o, d ∈ A → L.getD d true = false → os[d]? = some o → quiet o.i = true ∧ aHeld o t H ∧ ∀ x, o.dst = some x → alone ops os deps d x = true
  down : ∀ d, d ∈ A → ∀ k ∈ deps.getD d [], k ∈ A
theorem okD_spec {deps : List (List Nat)} (h : okD ops os deps = true) {j k : Nat} {oj ok : AO} {op : Oper} {x : Nat} (hj : os[j]? = some oj) (hk : os[k]? = some ok) (hp : ops[j]? = some op) (hx : ok.dst = some x) :
    (j = k ∨ oj.dst ≠ some x) ∧ (x ∈ op.looksAt ops ∨ x ∈ oj.reads → j = k ∨ k ∈ deps.getD j [] ∨ j ∈ deps.getD k []) := by
  unfold okD at h
  have h1 := List.all_eq_true.1 h j (List.mem_range.2 (List.getElem?_eq_some_iff.1 hj).1)
  simp only [Bool.and_eq_true] at h1
  have h2 := List.all_eq_true.1 h1.2 k (List.mem_range.2 (List.getElem?_eq_some_iff.1 hk).1)
  simp only [hj, hk, hp, hx, Bool.and_eq_true, Bool.or_eq_true, Bool.not_eq_true', beq_iff_eq, beq_eq_false_iff_ne, List.contains_eq_mem, decide_eq_false_iff_not, decide_eq_true_eq] at h2
  refine ⟨h2.1, fun hr => ?_⟩
  rcases h2.2 with ((a | ⟨a, b⟩) | a) | a
  · exact .inl a
  · rcases hr with hr | hr
    · exact absurd hr a
    · exact absurd hr b
  · exact .inr (.inl a)
  · exact .inr (.inr a)
theorem alone_spec {deps : List (List Nat)} {j x k : Nat} {ok : AO} {op : Oper} (h : alone ops os deps j x = true) (hk : os[k]? = some ok) (hp : ops[k]? = some op) (hr : x ∈ op.looksAt ops ∨ x ∈ ok.reads) : j ∈ deps.getD k [] := by
  unfold alone at h
  have h1 := List.all_eq_true.1 h k (List.mem_range.2 (List.getElem?_eq_some_iff.1 hk).1)
  simp only [hk, hp, Bool.and_eq_true, Bool.or_eq_true, Bool.not_eq_true', List.contains_eq_mem, decide_eq_false_iff_not, decide_eq_true_eq] at h1
  rcases h1 with ⟨a, b⟩ | a
  · rcases hr with hr | hr
    · exact absurd hr a
    · exact absurd hr b
  · exact a
theorem okD_lt {deps : List (List Nat)} (h : okD ops os deps = true) {j k : Nat} (hj : j < os.length) (hk : k ∈ deps.getD j []) : k < j := by
  unfold okD at h
  have h1 := List.all_eq_true.1 h j (List.mem_range.2 hj)
  simp only [Bool.and_eq_true] at h1
  have := List.all_eq_true.1 h1.1 k hk
  simpa using this
theorem reads_ev {o : AO} {t t' : Tm} (h : ∀ x ∈ o.reads, t x = t' x) : ∀ x ∈ o.i.opds, ev t x = ev t' x := fun x hx => by
  cases x with
  | s i => exact h i (List.mem_append_left _ (List.mem_filterMap.2 ⟨.s i, hx, rfl⟩))
  | c v => rfl
/-- What is held stays held while another temporary is set, where it doesn't look at the blocks or they stand. -/
theorem aHeld_upd {o : AO} {t : Tm} {H H' : Hp} {d : Option Nat} {v : Value} (hq : quiet o.i = true) (hh : aHeld o t H) (hb : looks o.i = false ∨ H' = H) (hd : ∀ x, d = some x → o.dst ≠ some x ∧ x ∉ o.reads) : aHeld o (upd t d v) H' := by
  have ht : ∀ x, (x ∈ o.reads ∨ o.dst = some x) → upd t d v x = t x := fun x hx => by
    cases d with
    | none => rfl
    | some e =>
      simp only [upd]
      split
      · rename_i he
        subst he
        obtain ⟨h1, h2⟩ := hd x rfl
        rcases hx with hx | hx
        · exact absurd hx h2
        · exact absurd hx h1
      · rfl
  have hev : aI o.i (ev (upd t d v)) H = aI o.i (ev t) H := aI_congr (reads_ev fun x hx => ht x (.inl hx))
  have key : ∀ u, aI o.i (ev t) H = some (u, H) → aI o.i (ev (upd t d v)) H' = some (u, H') := fun u hu => by
    rcases hb with hb | hb
    · exact aI_blind hq hb (by rw [hev]; exact hu)
    · subst hb
      rw [hev]
      exact hu
  unfold aHeld at hh ⊢
  split
  · rename_i hn
    rw [hn] at hh
    exact hh
  · rename_i e he
    rw [he] at hh
    simp only at hh
    have hte := ht e (.inr he)
    split
    · rename_i hg
      rw [hg] at hh
      rw [hte]
      exact key _ hh
    · rename_i g want hg
      rw [hg] at hh
      obtain ⟨b, hb1, hb2⟩ := hh
      refine ⟨b, by rw [ht g (.inl (by simp [AO.reads, hg]))]; exact hb1, ?_⟩
      split at hb2
      · rename_i hw
        rw [if_pos hw, hte]
        exact key _ hb2
      · rename_i hw
        rw [if_neg hw, hte]
        exact hb2
theorem all_contains {l A : List Nat} (h : l.all (A.contains ·) = true) : ∀ k ∈ l, k ∈ A := fun k hk => by simpa using List.all_eq_true.1 h k hk
theorem filt_lt {p q : Nat → Bool} {i : Nat} : ∀ (l : List Nat), (∀ x, q x = true → p x = true) → i ∈ l → p i = true → q i = false → (l.filter q).length < (l.filter p).length
  | [], _, hi, _, _ => by cases hi
  | x :: l, hpq, hi, hp, hq => by
    have hle : ∀ l : List Nat, (l.filter q).length ≤ (l.filter p).length := fun l => by
      induction l with
      | nil => exact Nat.le_refl _
      | cons y l ih =>
        by_cases hy : q y = true
        · rw [List.filter_cons_of_pos hy, List.filter_cons_of_pos (hpq y hy)]
          simpa using ih
        · rw [List.filter_cons_of_neg hy]
          refine Nat.le_trans ih ?_
          by_cases hy2 : p y = true
          · rw [List.filter_cons_of_pos hy2]; simp
          · rw [List.filter_cons_of_neg hy2]; exact Nat.le_refl _
    rcases List.mem_cons.1 hi with rfl | hi
    · rw [List.filter_cons_of_neg (by simp [hq]), List.filter_cons_of_pos hp]
      have := hle l
      simp
      omega
    · have ih := filt_lt l hpq hi hp hq
      by_cases hy : q x = true
      · rw [List.filter_cons_of_pos hy, List.filter_cons_of_pos (hpq x hy)]
        simpa using ih
      · rw [List.filter_cons_of_neg hy]
        by_cases hy2 : p x = true
        · rw [List.filter_cons_of_pos hy2]
          simp
          omega
        · rw [List.filter_cons_of_neg hy2]
          exact ih
theorem put_get {a : Act} {d : Option Nat} {v : Value} {x : Nat} : (a.put d v).tmps[x]? = if d = some x then (if x < a.tmps.size then some v else none) else a.tmps[x]? := by
  cases d with
  | none => simp [Act.put]
  | some d =>
    simp only [Act.put, Option.some.injEq, Array.getElem?_setIfInBounds]
    split
    · rename_i h; subst h; rfl
    · rfl
end
end Go.Proofs.Ytloeadlmcdddnaa.Abs
