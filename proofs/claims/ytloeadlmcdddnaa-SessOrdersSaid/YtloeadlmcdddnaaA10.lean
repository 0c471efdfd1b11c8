/- An abstract machine for the program's text, part 10: operations are told as instructions. -/
import Derived.Test.YtloeadlmcdddnaaA9K
set_option linter.unusedVariables false
set_option linter.unusedSimpArgs false
namespace Go.Proofs.Ytloeadlmcdddnaa.Abs
open Go Go.RowKit
def sizeT (P : Program) (T : TypeId) : Option Nat := (P.info? T).map (·.size)
/-- A type's zero cells. -/
def zeroT (P : Program) (T : TypeId) : Option (List Value) :=
  match (P.info? T).bind (·.zero) with
  | some z => if z.cells.toList.all okC = true ∧ z.cells.toList.length ≤ 16777216 then some z.cells.toList else none
  | none => none
/-- Where the parts of a type lie; the type's zero cells. -/
def partsOf (P : Program) (n : Nat) (T : TypeId) (ps : List (Nat × Operand)) : Option (List (Nat × Nat × Opd)) :=
  match placesOf P T with
  | some place => ps.mapM fun p => (place p.1).bind fun q => (cO n p.2).map fun x => (q.1, q.2, x)
  | none => none
def cBuiltin (P : Program) (n : Nat) (b : Builtin) (xs : List Operand) (Ts : List TypeId) : Option AI :=
  match b, xs, Ts with
  | .len, [x], [T] => match P.underlying T with
    | some .string => (cO n x).map (.len 2)
    | some (.slice _) => (cO n x).map (.len 4)
    | some (.array m _) => some (.lenK m)
    | some (.pointer T') => match P.underlying T' with
      | some (.array m _) => some (.lenK m)
      | _ => none
    | _ => none
  | .append, [x, y], [T, T2] => match P.underlying T, P.underlying T2 with
    | some (.slice E), some (.int _) => match P.info? E, zeroT P E with
      | some i, some z => if z.length = i.size ∧ 0 < i.size then (cO n x).bind fun x => (cO n y).map fun y => .appendZ E i.size i.bytes z x y else none
      | _, _ => none
    | some (.slice E), some d => match P.info? E with
      | some i => if (i.zero.map (·.cells.size) == some i.size && decide (0 < i.size) && (tkOf (some d) == 2 || tkOf (some d) == 4)) = true then
          (cO n x).bind fun x => (cO n y).map fun y => .append E i.size i.bytes x y
        else none
      | none => none
    | _, _ => none
  | .copy, [x, y], [T, _] => match P.underlying T with
    | some (.slice E) => (sizeT P E).bind fun sz => (cO n x).bind fun x => (cO n y).map fun y => .copy sz x y
    | _ => none
  | .min, [x, y], _ => (cO n x).bind fun x => (cO n y).map fun y => .minmax false x y
  | .max, [x, y], _ => (cO n x).bind fun x => (cO n y).map fun y => .minmax true x y
  | _, _, _ => none
/-- A function with a text. -/
def callable (P : Program) (f : FuncId) : Bool :=
  match P.funcs[f]? with
  | some fn => !(fn.name == "runtime.NumGoroutine") && fn.body.isSome
  | none => false
/-- The instruction that an operation is. -/
def cI (P : Program) (n : Nat) (o : Oper) : Option AI :=
  match o.op with
  | .move x => (cO n x).map .mov
  | .assign x => (cO n x).map .mov
  | .pick c x y => (cO n c).bind fun c => (cO n x).bind fun x => (cO n y).map fun y => .pick c x y
  | .box T x => (sizeT P T).bind fun m => if m ≤ 16777216 then (cO n x).map (.box T m) else none
  | .alloc T => (zeroT P T).map (.alloc T)
  | .build T ps => (zeroT P T).bind fun z => (partsOf P n T ps.toList).map (.build z)
  | .buildSlice T m ps => match P.underlying T with
    | some (.slice E) => (zeroT P E).bind fun z => if sizeT P E = some z.length ∧ m * z.length ≤ 16777216 ∧ 0 < z.length then
        (ps.toList.mapM fun p => ((fun i => some (i * z.length, z.length)) p.1 : Option (Nat × Nat)).bind fun q => (cO n p.2).map fun x => (q.1, q.2, x)).map (.lit E z.length m (mkCells z m)) else none
    | _ => none
  | .load T x => match isRowT P T with
    | some false => (cO n x).map .load
    | some true => (sizeT P T).bind fun m => (cO n x).map (.loadA m)
    | none => none
  | .store T x y => (sizeT P T).bind fun m => (cO n x).bind fun x => (cO n y).map (.store m x)
  | .nilCheck x => (cO n x).map .nilck
  | .binOp op T x y _ => match deepKinds P T with
    | some ks => if op = .eql ∨ op = .neq then (cO n x).bind fun x => (cO n y).map (.eqA (op == .neq) ks x) else none
    | none => (cO n x).bind fun x => (cO n y).map (.bin (tkOf (P.underlying T)) op x)
  | .unOp op _ x => (cO n x).map (.un op)
  | .convert S D x => match P.underlying S, P.underlying D with
    | some _, some (.int k) => (cO n x).map (.conv k)
    | some (.slice E), some .string => (match P.underlying E with | some (.int .u8) => (cO n x).map .str | _ => none)
    | some .string, some (.slice E) => (match P.underlying E with | some (.int .u8) => (cO n x).map (.bytesS E) | _ => none)
    | some (.slice E), some (.slice _) => if S = D then (match P.underlying E with | some (.int .u8) => (cO n x).map .same | _ => none) else none
    | _, _ => none
  | .makeSlice T x y => match P.underlying T with
    | some (.slice E) => match P.info? E with
      | some i => (zeroT P E).bind fun z => if z.length = i.size ∧ 0 < i.size then (cO n x).bind fun x => (cO n y).map (.make E z i.bytes x) else none
      | none => none
    | _ => none
  | .slice T x lo hi none => match P.underlying T with
    | some (.slice E) => (sizeT P E).bind fun sz => (cO n x).bind fun x => (cOO n lo).bind fun lo => (cOO n hi).map (.cut sz x lo)
    | some .string => (cO n x).bind fun x => (cOO n lo).bind fun lo => (cOO n hi).map (.cutS x lo)
    | some (.array m E) => (sizeT P E).bind fun sz => (cO n x).bind fun x => (cOO n lo).bind fun lo => (cOO n hi).map (.cutA m sz x lo)
    | _ => none
  | .fieldAddr T x f => match P.underlying T with
    | some (.struct fs) => match fs[f]? with
      | some fd => (sizeT P fd.type).bind fun m => if m ≠ 0 then (cO n x).map (.fadr fd.offset) else none
      | none => none
    | _ => none
  | .indexAddr T x i => match P.underlying T with
    | some (.slice E) => (sizeT P E).bind fun sz => (cO n x).bind fun x => (cO n i).map (.iadr sz x)
    | some (.array m E) => (sizeT P E).bind fun sz => (cO n x).bind fun x => (cO n i).map (.iadrA m sz x)
    | _ => none
  | .index T x i => match P.underlying T with
    | some .string => (cO n x).bind fun x => (cO n i).map (.idxS x)
    | some (.array m E) => (isRowT P E).bind fun b => (sizeT P E).bind fun sz => (cO n x).bind fun x => (cO n i).map (.idxA m sz b x)
    | _ => none
  | .extract x j => (cO n x).map (.ext j)
  | .call c => match c.callee with
    | .builtin b => cBuiltin P n b c.args.toList c.argTypes.toList
    | .value (.func f) => if callable P f = true then (c.args.toList.mapM (cO n)).map (.call f) else none
    | _ => none
  | _ => none
section
variable {P : Program} {o : Oper} {a : Act} {n : Nat} {t : Nat → Value} {w w0 : World} {ρ : Rho} {H : Hp}
theorem zeroT_spec {T : TypeId} {zs : List Value} (h : zeroT P T = some zs) : ∃ z, (P.info? T).bind (·.zero) = some z ∧ z.cells.toList = zs ∧ zs.all okC = true ∧ zs.length ≤ maxLen := by
  unfold zeroT at h
  split at h
  · rename_i z hz
    split at h
    · rename_i hc
      injection h with h
      subst h
      refine ⟨z, hz, rfl, hc.1, ?_⟩
      rw [show maxLen = 9223372036854775807 by decide]
      omega
    · cases h
  · cases h
theorem pair {α β : Type} {x y : α} {u v : β} (h : some (x, u) = some (y, v)) : x = y ∧ u = v := by
  injection h with h
  injection h with h1 h2
  exact ⟨h1, h2⟩
def Both (P : Program) (o : Oper) (a : Act) (w : World) (ρ : Rho) (i : AI) (v : Value) (H H' : Hp) (w0 : World) : Prop := Ok P o a w ρ v H' w0 ∧ (quiet i = true → H' = H ∧ Ok0 P o a w ρ v)
theorem Ok0.both {i : AI} {v : Value} (h0 : Ok0 P o a w ρ v) (h : RH ρ H w0 w) : Both P o a w ρ i v H H w0 := ⟨h0.ok h, fun _ => ⟨rfl, h0⟩⟩
theorem ok_builtin {ca : Call} {b : Builtin} {i : AI} {v : Value} {H' : Hp} (hop : o.op = .call ca) (hb : ca.callee = .builtin b) (hi : cBuiltin P n b ca.args.toList ca.argTypes.toList = some i) (hv : aI i (ev t) H = some (v, H')) (hg : RG ρ n t a) (h : RH ρ H w0 w) : Both P o a w ρ i v H H' w0 := by
  have arr : ∀ {α : Type} {xs : Array α} {l : List α}, xs.toList = l → xs = l.toArray := fun h => by rw [← h, Array.toArray_toList]
  unfold cBuiltin at hi
  split at hi
  · rename_i x T hxs hTs
    split at hi
    · rename_i hu
      simp only [Option.map_eq_some_iff] at hi
      obtain ⟨x', hx, rfl⟩ := hi
      simp only [aI] at hv
      split at hv
      · simp at hv
      · rename_i s hs
        simp only [if_true] at hv
        obtain ⟨rfl, rfl⟩ := pair hv
        exact (ok_len hop hb (arr hxs) (arr hTs) hx (.inl ⟨hu, s, hs, rfl⟩) hg h).both h
      · cases hv
    · rename_i e hu
      simp only [Option.map_eq_some_iff] at hi
      obtain ⟨x', hx, rfl⟩ := hi
      simp only [aI] at hv
      split at hv
      · rename_i p m c hs
        simp only [if_true] at hv
        obtain ⟨rfl, rfl⟩ := pair hv
        exact (ok_len hop hb (arr hxs) (arr hTs) hx (.inr ⟨e, hu, p, c, hs⟩) hg h).both h
      · simp at hv
      · cases hv
    · rename_i m e hu
      injection hi with hi
      subst hi
      simp only [aI] at hv
      obtain ⟨rfl, rfl⟩ := pair hv
      exact (ok_lenK hop hb (arr hxs) (arr hTs) (.inl hu) h).both h
    · rename_i T' hu
      split at hi
      · rename_i m e hu'
        injection hi with hi
        subst hi
        simp only [aI] at hv
        obtain ⟨rfl, rfl⟩ := pair hv
        exact (ok_lenK hop hb (arr hxs) (arr hTs) (.inr ⟨T', hu, hu'⟩) h).both h
      · cases hi
    · cases hi
  · rename_i x y T T2 hxs hTs
    split at hi
    · rename_i E k0 hu hu2
      split at hi
      · rename_i ti z hti hz
        split at hi
        · rename_i hc
          obtain ⟨zv, hz1, hz2, hz3, hz4⟩ := zeroT_spec hz
          rw [hti] at hz1
          simp only [Option.bind_some] at hz1
          simp only [Option.map_eq_some_iff, Option.bind_eq_some_iff] at hi
          obtain ⟨x', hx, y', hy, rfl⟩ := hi
          exact ⟨ok_appendZ ⟨ca, hop, hb, arr hxs, arr hTs⟩ hu hu2 hti hz1 hz2 hc.1 hz3 hc.2 hx hy hv hg h, fun hq => by cases hq⟩
        · cases hi
      · cases hi
    · rename_i E d _ hu hu2
      split at hi
      · rename_i ti hti
        split at hi
        · rename_i hc
          simp only [Bool.and_eq_true, Bool.or_eq_true, beq_iff_eq, decide_eq_true_eq] at hc
          obtain ⟨⟨hz, hpos⟩, hd⟩ := hc
          obtain ⟨z, hz1, hz2⟩ := Option.map_eq_some_iff.1 hz
          simp only [Option.map_eq_some_iff, Option.bind_eq_some_iff] at hi
          obtain ⟨x', hx, y', hy, rfl⟩ := hi
          refine ⟨ok_append ⟨ca, hop, hb, arr hxs, arr hTs⟩ hu hu2 ?_ hti hz1 hz2 hpos hx hy hv hg h, fun hq => by cases hq⟩
          rcases hd with hd | hd
          · left; cases d <;> simp_all [tkOf]
          · right; cases d <;> simp_all [tkOf]
        · cases hi
      · cases hi
    · cases hi
  · rename_i x y T T2 hxs hTs
    split at hi
    · rename_i E hu
      simp only [Option.map_eq_some_iff, Option.bind_eq_some_iff] at hi
      obtain ⟨sz, hs, x', hx, y', hy, rfl⟩ := hi
      exact ⟨ok_copy hop hb (arr hxs) (arr hTs) hu hs hx hy hv hg h, fun hq => by cases hq⟩
    · cases hi
  · rename_i x y hxs
    simp only [Option.map_eq_some_iff, Option.bind_eq_some_iff] at hi
    obtain ⟨x', hx, y', hy, rfl⟩ := hi
    simp only [aI] at hv
    split at hv
    · rename_i k p k' q h1 h2
      split at hv
      · rename_i hk
        subst hk
        obtain ⟨rfl, rfl⟩ := pair hv
        exact (ok_min hop hb (arr hxs) rfl hx hy h1 h2 hg h).both h
      · cases hv
    · cases hv
  · rename_i x y hxs
    simp only [Option.map_eq_some_iff, Option.bind_eq_some_iff] at hi
    obtain ⟨x', hx, y', hy, rfl⟩ := hi
    simp only [aI] at hv
    split at hv
    · rename_i k p k' q h1 h2
      split at hv
      · rename_i hk
        subst hk
        obtain ⟨rfl, rfl⟩ := pair hv
        exact (ok_max hop hb (arr hxs) rfl hx hy h1 h2 hg h).both h
      · cases hv
    · cases hv
  · cases hi
/-- THE LAW OF THE INSTRUCTIONS: where the instruction has a value, the machine's operation ends, with a related value. -/
theorem cI_ok {i : AI} {v : Value} {H' : Hp} (hi : cI P n o = some i) (hv : aI i (ev t) H = some (v, H')) (hg : RG ρ n t a) (h : RH ρ H w0 w) : Both P o a w ρ i v H H' w0 := by
  unfold cI at hi
  split at hi
  · rename_i x ho
    obtain ⟨x', hx, rfl⟩ := Option.map_eq_some_iff.1 hi
    obtain ⟨rfl, rfl⟩ := pair hv
    exact (ok_mov (.inl ho) hx hg h).both h
  · rename_i x ho
    obtain ⟨x', hx, rfl⟩ := Option.map_eq_some_iff.1 hi
    obtain ⟨rfl, rfl⟩ := pair hv
    exact (ok_mov (.inr ho) hx hg h).both h
  · rename_i c x y ho
    simp only [Option.map_eq_some_iff, Option.bind_eq_some_iff] at hi
    obtain ⟨c', hc, x', hx, y', hy, rfl⟩ := hi
    simp only [aI] at hv
    split at hv
    · rename_i b hb
      obtain ⟨rfl, rfl⟩ := pair hv
      exact (ok_pick ho hc hx hy hb hg h).both h
    · cases hv
  · rename_i T x ho
    simp only [Option.bind_eq_some_iff] at hi
    obtain ⟨m, hm, hi⟩ := hi
    split at hi
    · rename_i hle
      obtain ⟨x', hx, rfl⟩ := Option.map_eq_some_iff.1 hi
      simp only [aI] at hv
      split at hv
      · rename_i hc
        obtain ⟨rfl, rfl⟩ := pair hv
        exact ⟨ok_box ho hx hc.1 (by rw [show maxLen = 9223372036854775807 by decide]; omega) hg h, fun hq => by cases hq⟩
      · cases hv
    · cases hi
  · rename_i T ho
    obtain ⟨zs, hz, rfl⟩ := Option.map_eq_some_iff.1 hi
    obtain ⟨z, h1, h2, h3, h4⟩ := zeroT_spec hz
    obtain ⟨rfl, rfl⟩ := pair hv
    exact ⟨ok_alloc ho h1 h2 h3 h4 h, fun hq => by cases hq⟩
  · rename_i T ps ho
    simp only [Option.map_eq_some_iff, Option.bind_eq_some_iff] at hi
    obtain ⟨zs, hz, parts, hp, rfl⟩ := hi
    obtain ⟨z, h1, h2, h3, h4⟩ := zeroT_spec hz
    simp only [aI] at hv
    obtain ⟨xs, hx, he⟩ := Option.map_eq_some_iff.1 hv
    obtain ⟨rfl, rfl⟩ := pair (congrArg some he)
    unfold partsOf at hp
    split at hp
    · rename_i place hpl
      exact (ok_build ho hpl h1 h2 h3 hp hx hg h).both h
    · cases hp
  · rename_i T m ps ho
    split at hi
    · rename_i E hu
      simp only [Option.bind_eq_some_iff] at hi
      obtain ⟨zs, hz, hi⟩ := hi
      obtain ⟨z, h1, h2, h3, h4⟩ := zeroT_spec hz
      split at hi
      · rename_i hc
        obtain ⟨hs, h24, hpos⟩ := hc
        obtain ⟨parts, hp, rfl⟩ := Option.map_eq_some_iff.1 hi
        simp only [aI] at hv
        obtain ⟨xs, hx, he⟩ := Option.map_eq_some_iff.1 hv
        obtain ⟨rfl, rfl⟩ := pair (congrArg some he)
        exact ⟨ok_lit ho hu hs h1 (by rw [h2]) (by rw [h2]; exact h3) h24 hpos hp (by rw [h2]) hx hg h, fun hq => by cases hq⟩
      · cases hi
    · cases hi
  · rename_i T x ho
    split at hi
    · rename_i ht
      obtain ⟨x', hx, rfl⟩ := Option.map_eq_some_iff.1 hi
      simp only [aI] at hv
      split at hv
      · rename_i b q hp
        split at hv
        · rename_i u hu
          obtain ⟨rfl, rfl⟩ := pair hv
          exact (ok_load ho ht hx hp hu hg h).both h
        · cases hv
      · cases hv
    · rename_i ht
      simp only [Option.map_eq_some_iff, Option.bind_eq_some_iff] at hi
      obtain ⟨m, hm, x', hx, rfl⟩ := hi
      simp only [aI] at hv
      split at hv
      · rename_i b q hp
        obtain ⟨xs, hxs, he⟩ := Option.map_eq_some_iff.1 hv
        obtain ⟨rfl, rfl⟩ := pair (congrArg some he)
        exact (ok_loadA ho ht hm hx hp hxs hg h).both h
      · cases hv
    · cases hi
  · rename_i T x y ho
    simp only [Option.map_eq_some_iff, Option.bind_eq_some_iff] at hi
    obtain ⟨m, hm, x', hx, y', hy, rfl⟩ := hi
    simp only [aI] at hv
    split at hv
    · rename_i b q hp
      split at hv
      · rename_i hc
        obtain ⟨H1, hH, he⟩ := Option.map_eq_some_iff.1 hv
        obtain ⟨rfl, rfl⟩ := pair (congrArg some he)
        exact ⟨ok_store ho hm hx hy hp hc.2 hc.1 hH hg h, fun hq => by cases hq⟩
      · cases hv
    · cases hv
  · rename_i x ho
    obtain ⟨x', hx, rfl⟩ := Option.map_eq_some_iff.1 hi
    simp only [aI] at hv
    split at hv
    · rename_i p hp
      obtain ⟨rfl, rfl⟩ := pair hv
      exact (ok_nilck ho hx hp hg h).both h
    · cases hv
  · rename_i op T x y yT ho
    split at hi
    · rename_i ks hk
      split at hi
      · rename_i hop
        simp only [Option.map_eq_some_iff, Option.bind_eq_some_iff] at hi
        obtain ⟨x', hx, y', hy, rfl⟩ := hi
        simp only [aI] at hv
        split at hv
        · rename_i xs ys h1 h2
          obtain ⟨b, hb, he⟩ := Option.map_eq_some_iff.1 hv
          obtain ⟨rfl, rfl⟩ := pair (congrArg some he)
          have := ok_eqD ho hop hk hx hy h1 h2 hb hg h
          refine Ok0.both ?_ h
          rcases hop with rfl | rfl <;> simpa using this
        · cases hv
      · cases hi
    · simp only [Option.map_eq_some_iff, Option.bind_eq_some_iff] at hi
      obtain ⟨x', hx, y', hy, rfl⟩ := hi
      simp only [aI] at hv
      obtain ⟨b, hb, he⟩ := Option.map_eq_some_iff.1 hv
      obtain ⟨rfl, rfl⟩ := pair (congrArg some he)
      exact (ok_bin ho hx hy hb hg h).both h
  · rename_i op T x ho
    obtain ⟨x', hx, rfl⟩ := Option.map_eq_some_iff.1 hi
    simp only [aI] at hv
    obtain ⟨b, hb, he⟩ := Option.map_eq_some_iff.1 hv
    obtain ⟨rfl, rfl⟩ := pair (congrArg some he)
    exact (ok_un ho hx hb hg h).both h
  · rename_i S D x ho
    split at hi
    · rename_i u k hS hD
      obtain ⟨x', hx, rfl⟩ := Option.map_eq_some_iff.1 hi
      simp only [aI] at hv
      split at hv
      · rename_i j m hj
        obtain ⟨rfl, rfl⟩ := pair hv
        exact (ok_conv ho (by rw [hS]; rfl) hD hx hj hg h).both h
      · cases hv
    · rename_i E hS hD
      split at hi
      · rename_i hE
        obtain ⟨x', hx, rfl⟩ := Option.map_eq_some_iff.1 hi
        simp only [aI] at hv
        split at hv
        · rename_i p m c hp
          split at hv
          · rename_i xs hxs
            obtain ⟨ns, hns, he⟩ := Option.map_eq_some_iff.1 hv
            obtain ⟨rfl, rfl⟩ := pair (congrArg some he)
            exact (ok_str ho hS hE hD hx hp hxs hns hg h).both h
          · cases hv
        · cases hv
      · cases hi
    · rename_i E hS hD
      split at hi
      · rename_i hE
        obtain ⟨x', hx, rfl⟩ := Option.map_eq_some_iff.1 hi
        simp only [aI] at hv
        split at hv
        · rename_i s hs
          split at hv
          · rename_i hle
            obtain ⟨rfl, rfl⟩ := pair hv
            exact ⟨ok_bytesS ho hS hD hE hx hs hle hg h, fun hq => by cases hq⟩
          · cases hv
        · cases hv
      · cases hi
    · rename_i E E2 hS hD
      split at hi
      · rename_i hSD
        subst hSD
        split at hi
        · rename_i hE
          obtain ⟨x', hx, rfl⟩ := Option.map_eq_some_iff.1 hi
          simp only [aI] at hv
          split at hv
          · rename_i b q m c hp
            split at hv
            · rename_i k hk
              split at hv
              · rename_i hc
                obtain ⟨rfl, rfl⟩ := pair hv
                exact ⟨ok_same ho hS hE hx hp hk hc.1 hc.2 hg h, fun hq => by cases hq⟩
              · cases hv
            · cases hv
          · cases hv
        · cases hi
      · cases hi
    · cases hi
  · rename_i T x y ho
    split at hi
    · rename_i E hu
      split at hi
      · rename_i ti hti
        simp only [Option.bind_eq_some_iff] at hi
        obtain ⟨zs, hz, hi⟩ := hi
        obtain ⟨z, h1, h2, h3, h4⟩ := zeroT_spec hz
        rw [hti] at h1
        simp only [Option.bind_some] at h1
        split at hi
        · rename_i hc
          simp only [Option.map_eq_some_iff, Option.bind_eq_some_iff] at hi
          obtain ⟨x', hx, y', hy, rfl⟩ := hi
          simp only [aI] at hv
          split at hv
          · rename_i k1 m k2 r e1 e2
            split at hv
            · rename_i hb
              obtain ⟨rfl, rfl⟩ := pair hv
              exact ⟨ok_make ho hu hti h1 h2 hc.1 hc.2 h3 hx hy e1 e2 hb.1 hb.2.1 hb.2.2.1 hb.2.2.2 hg h, fun hq => by cases hq⟩
            · cases hv
          · cases hv
        · cases hi
      · cases hi
    · cases hi
  · rename_i T x lo hi' ho
    split at hi
    · rename_i E hu
      simp only [Option.map_eq_some_iff, Option.bind_eq_some_iff] at hi
      obtain ⟨sz, hs, x', hx, l', hl, r', hr, rfl⟩ := hi
      simp only [aI] at hv
      split at hv
      · rename_i hp
        split at hv
        · rename_i hb
          obtain ⟨rfl, rfl⟩ := pair hv
          exact (ok_cut_nil ho hu hs hx hl hr hp hb hg h).both h
        · cases hv
      · rename_i b q m c hp
        split at hv
        · rename_i l r hb
          obtain ⟨rfl, rfl⟩ := pair hv
          exact (ok_cut ho hu hs hx hl hr hp hb hg h).both h
        · cases hv
      · cases hv
    · rename_i hu
      simp only [Option.map_eq_some_iff, Option.bind_eq_some_iff] at hi
      obtain ⟨x', hx, l', hl, r', hr, rfl⟩ := hi
      simp only [aI] at hv
      split at hv
      · rename_i s hp
        split at hv
        · rename_i l r hb
          obtain ⟨rfl, rfl⟩ := pair hv
          exact (ok_cutS ho hu hx hl hr hp hb hg h).both h
        · cases hv
      · cases hv
    · rename_i m E hu
      simp only [Option.map_eq_some_iff, Option.bind_eq_some_iff] at hi
      obtain ⟨sz, hs, x', hx, l', hl, r', hr, rfl⟩ := hi
      simp only [aI] at hv
      split at hv
      · rename_i b q hp
        split at hv
        · rename_i l r hb
          obtain ⟨rfl, rfl⟩ := pair hv
          exact (ok_cutA ho hu hs hx hl hr hp hb hg h).both h
        · cases hv
      · cases hv
    · cases hi
  · rename_i T x f ho
    split at hi
    · rename_i fs hu
      split at hi
      · rename_i fd hf
        simp only [Option.bind_eq_some_iff] at hi
        obtain ⟨m, hm, hi⟩ := hi
        split at hi
        · rename_i hne
          obtain ⟨x', hx, rfl⟩ := Option.map_eq_some_iff.1 hi
          simp only [aI] at hv
          split at hv
          · rename_i b q hp
            obtain ⟨rfl, rfl⟩ := pair hv
            exact (ok_fadr ho hu hf hm hne hx hp hg h).both h
          · cases hv
        · cases hi
      · cases hi
    · cases hi
  · rename_i T x i' ho
    split at hi
    · rename_i E hu
      simp only [Option.map_eq_some_iff, Option.bind_eq_some_iff] at hi
      obtain ⟨sz, hs, x', hx, y', hy, rfl⟩ := hi
      simp only [aI] at hv
      split at hv
      · rename_i b q m c k j hp hj
        split at hv
        · rename_i hb
          obtain ⟨rfl, rfl⟩ := pair hv
          exact (ok_iadr ho hu hs hx hy hp hj hb hg h).both h
        · cases hv
      · cases hv
    · rename_i m E hu
      simp only [Option.map_eq_some_iff, Option.bind_eq_some_iff] at hi
      obtain ⟨sz, hs, x', hx, y', hy, rfl⟩ := hi
      simp only [aI] at hv
      split at hv
      · rename_i b q k j hp hj
        split at hv
        · rename_i hb
          obtain ⟨rfl, rfl⟩ := pair hv
          exact (ok_iadrA ho hu hs hx hy hp hj hb hg h).both h
        · cases hv
      · cases hv
    · cases hi
  · rename_i T x i' ho
    split at hi
    · rename_i hu
      simp only [Option.map_eq_some_iff, Option.bind_eq_some_iff] at hi
      obtain ⟨x', hx, y', hy, rfl⟩ := hi
      simp only [aI] at hv
      split at hv
      · rename_i s k j hp hj
        split at hv
        · rename_i h0
          split at hv
          · rename_i c hc
            obtain ⟨rfl, rfl⟩ := pair hv
            exact (ok_idxS ho hu hx hy hp hj h0 hc hg h).both h
          · cases hv
        · cases hv
      · cases hv
    · rename_i m E hu
      simp only [Option.map_eq_some_iff, Option.bind_eq_some_iff] at hi
      obtain ⟨b, hb, sz, hs, x', hx, y', hy, rfl⟩ := hi
      simp only [aI] at hv
      split at hv
      · rename_i xs k j hp hj
        split at hv
        · rename_i hc
          split at hv
          · rename_i hbt
            obtain ⟨rfl, rfl⟩ := pair hv
            exact (ok_idxA ho hu hb hs hx hy hp hj ⟨hc.1, hc.2.1⟩ (by rw [if_pos hbt]) hg h).both h
          · rename_i hbt
            split at hv
            · rename_i u hu2
              obtain ⟨rfl, rfl⟩ := pair hv
              exact (ok_idxA ho hu hb hs hx hy hp hj ⟨hc.1, hc.2.1⟩ (by rw [if_neg hbt]; exact hu2) hg h).both h
            · cases hv
        · cases hv
      · cases hv
    · cases hi
  · rename_i x j ho
    obtain ⟨x', hx, rfl⟩ := Option.map_eq_some_iff.1 hi
    simp only [aI] at hv
    split at hv
    · rename_i vs hp
      split at hv
      · rename_i u hu
        obtain ⟨rfl, rfl⟩ := pair hv
        exact (ok_ext ho hx hp hu hg h).both h
      · cases hv
    · cases hv
  · rename_i c ho
    split at hi
    · rename_i b hb
      exact ok_builtin ho hb hi hv hg h
    · split at hi
      · obtain ⟨x', hx, rfl⟩ := Option.map_eq_some_iff.1 hi
        cases hv
      · cases hi
    · cases hi
  · cases hi
end
end Go.Proofs.Ytloeadlmcdddnaa.Abs
