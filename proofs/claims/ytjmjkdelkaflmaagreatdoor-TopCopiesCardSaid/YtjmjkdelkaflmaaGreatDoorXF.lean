/- An abstract machine for the program's text, part 16: what a law is handed, told with abstract blocks. -/
import Derived.Test.YtjmjkdelkaflmaaGreatDoorXE
import Derived.Test.YtjmjkdelkaflmaaGreatDoorRows
import Derived.OpenShut
import Derived.ChangeArms
import Derived.DataReads
import Derived.ChangeOld
import GoSem.ClaimJoined
import Derived.Carry
import Derived.WideShapes
import Derived.SizedLaws
set_option linter.unusedVariables false
set_option linter.unusedSimpArgs false
namespace Go.Proofs.YtjmjkdelkaflmaaGreatDoor.Abs
open Go Go.RowKit
def dat (P : Program) (H : Hp) (B : Nat) : Nat → TypeId → List Value → Prop
 | 0, _, _ => False
 | d + 1, t, us => match P.underlying t with
  | some .bool => ∃ b, us = [.bool b]
  | some (.int k) => ∃ n, us = [.int k n] ∧ (Lit.int k n).wf = true
  | some .string => ∃ s : ByteArray, us = [.string s] ∧ s.size ≤ 140737488351232 ∧ s.size ≤ B
  | some (.slice e) => us = [.slice none 0 0] ∨ (∃ b, us = [.slice (some ⟨b, 0, none⟩) 0 0]) ∨ ∃ b n k, us = [.slice (some ⟨b, 0, none⟩) n 0] ∧ 0 < n ∧ H.m b = some k ∧ k.rw = false ∧ k.cells.length = n * P.cellsOf e ∧ n * P.bytesOf e ≤ 140737488351232 ∧ n ≤ B ∧
    ∀ i, i < n → dat P H B d e ((k.cells.drop (i * P.cellsOf e)).take (P.cellsOf e))
  | some (.struct fs) => us.length = P.cellsOf t ∧ ∀ (i : Nat) (f : Field), fs[i]? = some f → dat P H B d f.type ((us.drop f.offset).take (P.cellsOf f.type))
  | some (.array n e) => us.length = P.cellsOf t ∧ ∀ i, i < n → dat P H B d e ((us.drop (i * P.cellsOf e)).take (P.cellsOf e))
  | _ => False
def okT (P : Program) : Nat → TypeId → Bool
 | 0, _ => false
 | d + 1, t => match P.underlying t with
  | some .bool | some (.int _) | some .string => true
  | some (.slice e) => decide (0 < P.cellsOf e) && okT P d e
  | some (.struct fs) => (fs.toList.all fun f => okT P d f.type) && (List.range fs.size).all (fun (i : Nat) => (fs[i]?.map (·.offset)) == some ((fs.toList.map fun f => P.cellsOf f.type).take i).sum) && ((fs.toList.map fun f => P.cellsOf f.type).sum == P.cellsOf t)
  | some (.array n e) => okT P d e && (n * P.cellsOf e == P.cellsOf t)
  | _ => false
def HExt (H H' : Hp) : Prop := ∀ b k, H.m b = some k → H'.m b = some k
def Ro (H : Hp) : Prop := ∀ b k, H.m b = some k → k.rw = false
theorem dat_ext {P : Program} {H H' : Hp} {B : Nat} (he : HExt H H') : ∀ {d : Nat} {t : TypeId} {us : List Value}, dat P H B d t us → dat P H' B d t us
 | 0, _, _, h => h
 | d + 1, t, us, h => by
  unfold dat at h ⊢
  split at h
  ·exact h
  ·exact h
  ·exact h
  ·rcases h with h | h | ⟨b, n, k, h1, h2, h3, h4, h5, h6, h8, h7⟩
   ·exact .inl h
   ·exact .inr (.inl h)
   ·exact .inr (.inr ⟨b, n, k, h1, h2, he b k h3, h4, h5, h6, h8, fun i hi => dat_ext he (h7 i hi)⟩)
  ·exact ⟨h.1, fun i f hf => dat_ext he (h.2 i f hf)⟩
  ·exact ⟨h.1, fun i hi => dat_ext he (h.2 i hi)⟩
  ·exact h
section
variable {HH : Type} {enc : TypeId × Value → HH} {P : Program} {W : World}
theorem RH.addRO {ρ : Rho} {H : Hp} {w0 w : World} (h : RH ρ H w0 w) (hro : Ro H) (a : Addr) (e : TypeId) (xs ys : List Value) (ha : a.block < w.heap.size) (hx : All2 (RC ρ) xs ys) (hc : ∀ i u, ys[i]? = some u → w.cell? (a.add i) = some u) :
  ∃ ρ', Ext ρ ρ' ∧ ρ' H.nx = some ⟨a, 0, 0⟩ ∧ RH ρ' (H.push ⟨false, e, xs⟩) w0 w ∧ Ro (H.push ⟨false, e, xs⟩) ∧ HExt H (H.push ⟨false, e, xs⟩) := by
 have he : Ext ρ (fun b => if b = H.nx then some ⟨a, 0, 0⟩ else ρ b) := fun b l hb => by
  have := h.lt hb
  show (if b = H.nx then _ else _) = _
  rw [if_neg (by omega)]
  exact hb
 have hm : ∀ {b k}, (H.push ⟨false, e, xs⟩).m b = some k → (b = H.nx ∧ k = ⟨false, e, xs⟩) ∨ (b ≠ H.nx ∧ H.m b = some k) := fun {b k} hk => by
  replace hk : (if b = H.nx then some ⟨false, e, xs⟩ else H.m b) = some k := hk
  by_cases e1 : b = H.nx
  ·rw [if_pos e1] at hk
   injection hk with hk
   exact .inl ⟨e1, hk.symm⟩
  ·rw [if_neg e1] at hk
   exact .inr ⟨e1, hk⟩
 have hro' : Ro (H.push ⟨false, e, xs⟩) := fun b k hk => by
  rcases hm hk with ⟨_, rfl⟩ | ⟨_, h1⟩
  ·rfl
  ·exact hro b k h1
 refine ⟨_, he, by simp, ⟨h.below, fun b k hk => ?_, fun b b' k k' l l' hk hk' hrw => ?_, fun b hb => ?_, fun b l hl => ?_⟩, hro', fun b k hk => ?_⟩
 ·rcases hm hk with ⟨rfl, rfl⟩ | ⟨h1, h2⟩
  ·refine ⟨⟨a, 0, 0⟩, by simp, fun i u hu => ?_, fun hrw => by cases hrw⟩
   obtain ⟨y, hy, hr⟩ := hx.get i u hu
   exact ⟨y, hc i y hy, hr.ext he⟩
  ·obtain ⟨l, hl, hcl, ho⟩ := h.cells b k h2
   exact ⟨l, he b l hl, fun i u hu => let ⟨u', x, r⟩ := hcl i u hu; ⟨u', x, r.ext he⟩, fun hr => (ho hr).ext he⟩
 ·rw [hro' b k hk] at hrw
  cases hrw
 ·simp only [Hp.push] at hb
  rw [if_neg (by omega)]
  exact h.fresh b (by omega)
 ·by_cases e1 : b = H.nx
  ·simp only [if_pos e1] at hl
   injection hl with hl
   subst hl
   exact ha
  ·simp only [if_neg e1] at hl
   exact h.inw b l hl
 ·have := h.live hk
  show (if b = H.nx then _ else _) = _
  rw [if_neg (by omega)]
  exact hk
def Opens (P : Program) (W : World) (B : Nat) (D : Nat) (t : TypeId) (cs : List Value) : Prop :=
 ∀ ρ H, RH ρ H W W → Ro H → ∃ ρ' H' us, Ext ρ ρ' ∧ HExt H H' ∧ RH ρ' H' W W ∧ Ro H' ∧ All2 (RC ρ') us cs ∧ dat P H' B D t us
theorem opens_all {B D : Nat} : ∀ (n : Nat) (ts : Nat → TypeId) (cs : Nat → List Value), (∀ i, i < n → Opens P W B D (ts i) (cs i)) → ∀ ρ H, RH ρ H W W → Ro H →
  ∃ (ρ' : Rho) (H' : Hp) (uss : List (List Value)), Ext ρ ρ' ∧ HExt H H' ∧ RH ρ' H' W W ∧ Ro H' ∧ uss.length = n ∧ ∀ (i : Nat) (us : List Value), uss[i]? = some us → All2 (RC ρ') us (cs i) ∧ dat P H' B D (ts i) us
 | 0, _, _, _, ρ, H, h, hro => ⟨ρ, H, [], Ext.refl _, fun _ _ h => h, h, hro, rfl, fun i us hu => by simp at hu⟩
 | n + 1, ts, cs, ho, ρ, H, h, hro => by
  obtain ⟨ρ1, H1, uss, e1, x1, h1, r1, l1, p1⟩ := opens_all n ts cs (fun i hi => ho i (by omega)) ρ H h hro
  obtain ⟨ρ2, H2, us, e2, x2, h2, r2, a2, d2⟩ := ho n (by omega) ρ1 H1 h1 r1
  refine ⟨ρ2, H2, uss ++ [us], e1.trans e2, fun b k hk => x2 b k (x1 b k hk), h2, r2, by simp [l1], fun i vs hv => ?_⟩
  rw [List.getElem?_append] at hv
  split at hv
  ·obtain ⟨q1, q2⟩ := p1 i vs hv
   exact ⟨q1.imp fun _ _ r => r.ext e2, dat_ext x2 q2⟩
  ·rename_i hi
   have hin : i = n := by
    have := (List.getElem?_eq_some_iff.1 hv).1
    simp at this
    omega
   subst hin
   rw [l1, Nat.sub_self] at hv
   simp at hv
   subst hv
   exact ⟨a2, d2⟩
theorem flat_rel {R : Value → Value → Prop} : ∀ (szs : List Nat) (uss : List (List Value)) (cs : List Value), uss.length = szs.length → cs.length = szs.sum → (∀ (i : Nat) (us : List Value) (s : Nat), uss[i]? = some us → szs[i]? = some s → All2 R us ((cs.drop (szs.take i).sum).take s)) →
  All2 R uss.flatten cs ∧ ∀ (i : Nat) (us : List Value) (s : Nat), uss[i]? = some us → szs[i]? = some s → (uss.flatten.drop (szs.take i).sum).take s = us
 | [], uss, cs, hl, hc, hp => by
  have : uss = [] := List.eq_nil_of_length_eq_zero (by simpa using hl)
  subst this
  have : cs = [] := List.eq_nil_of_length_eq_zero (by simpa using hc)
  subst this
  exact ⟨.nil, fun i us s h => by simp at h⟩
 | s :: szs, [], cs, hl, hc, hp => by simp at hl
 | s :: szs, u :: uss, cs, hl, hc, hp => by
  simp only [List.sum_cons] at hc
  have h0 := hp 0 u s rfl rfl
  simp only [List.take_zero, List.sum_nil, List.drop_zero] at h0
  have hul : u.length = s := by rw [h0.length, List.length_take]; omega
  obtain ⟨q1, q2⟩ := flat_rel (R := R) szs uss (cs.drop s) (by simpa using hl) (by rw [List.length_drop]; omega) (fun i us s' hi hs => by
   have := hp (i + 1) us s' (by simpa using hi) (by simpa using hs)
   simp only [List.take_succ_cons, List.sum_cons] at this
   rwa [← List.drop_drop] at this)
  refine ⟨?_, fun i us s' hi hs => ?_⟩
  ·have := h0.append q1
   rw [List.take_append_drop] at this
   simpa using this
  ·cases i with
   | zero =>
    simp at hi hs
    subst hi hs
    simp [← hul]
   | succ i =>
    have := q2 i us s' (by simpa using hi) (by simpa using hs)
    simp only [List.take_succ_cons, List.sum_cons, List.flatten_cons]
    rw [← List.drop_drop]
    rw [show (u ++ uss.flatten).drop s = uss.flatten by rw [← hul]; simp]
    exact this
theorem sum_take_replicate (n sz i : Nat) (h : i ≤ n) : ((List.replicate n sz).take i).sum = i * sz := by
 rw [List.take_replicate, Nat.min_eq_left h]
 simp
theorem weightsAll_get {e : TypeId} : ∀ {xs : List (DataW HH)} {i : Nat} {x : DataW HH}, (DataW.weightsAll P e xs).all (· ≤ reachBytes) = true → xs[i]? = some x → (x.weights P e).all (· ≤ reachBytes) = true
 | [], i, x, h, hx => by simp at hx
 | y :: ys, 0, x, h, hx => by
  simp at hx
  subst hx
  simp only [DataW.weightsAll, List.all_append, Bool.and_eq_true] at h
  exact h.1
 | y :: ys, i + 1, x, h, hx => by
  simp only [DataW.weightsAll, List.all_append, Bool.and_eq_true] at h
  exact weightsAll_get h.2 (by simpa using hx)
theorem weightsEach_get : ∀ {ts : List TypeId} {xs : List (DataW HH)} {i : Nat} {t : TypeId} {x : DataW HH}, (DataW.weightsEach P ts xs).all (· ≤ reachBytes) = true → ts[i]? = some t → xs[i]? = some x → (x.weights P t).all (· ≤ reachBytes) = true
 | [], xs, i, t, x, h, ht, hx => by simp at ht
 | t0 :: ts, [], i, t, x, h, ht, hx => by simp at hx
 | t0 :: ts, y :: ys, 0, t, x, h, ht, hx => by
  simp at hx ht
  subst hx ht
  simp only [DataW.weightsEach, List.all_append, Bool.and_eq_true] at h
  exact h.1
 | t0 :: ts, y :: ys, i + 1, t, x, h, ht, hx => by
  simp only [DataW.weightsEach, List.all_append, Bool.and_eq_true] at h
  exact weightsEach_get h.2 (by simpa using ht) (by simpa using hx)
theorem bulk_one {HH : Type} (d : DataW HH) : 1 ≤ Rows.uptoBulk d := by
 cases d with
 | lit l => cases l <;> simp [Rows.uptoBulk]
 | nil | ptr _ | slice _ _ | agg _ | iface _ _ | map _ | held _ => simp [Rows.uptoBulk]
theorem bulk_len {HH : Type} : ∀ l : List (DataW HH), l.length ≤ Rows.uptoBulkAll l
 | [] => by simp [Rows.uptoBulkAll]
 | x :: r => by
  have h1 := bulk_one x
  have h2 := bulk_len r
  simp only [Rows.uptoBulkAll, List.length_cons]
  omega
theorem bulk_get {HH : Type} : ∀ {l : List (DataW HH)} {i : Nat} {x : DataW HH}, l[i]? = some x → Rows.uptoBulk x ≤ Rows.uptoBulkAll l
 | [], i, x, h => by simp at h
 | y :: r, 0, x, h => by
  simp at h
  subst h
  simp only [Rows.uptoBulkAll]
  omega
 | y :: r, i + 1, x, h => by
  have := bulk_get (l := r) (i := i) (x := x) (by simpa using h)
  simp only [Rows.uptoBulkAll]
  omega
theorem opens_of {B : Nat} : ∀ (D : Nat) (t : TypeId) (fuel : Nat) (cs : List Value) (x : DataW HH × List MemPlace), okT P D t = true → DataW.trod enc P W 0 (fun _ => true) true fuel t cs = some x → (x.1.weights P t).all (· ≤ reachBytes) = true → Rows.uptoBulk x.1 ≤ B → Opens P W B D t cs
 | 0, t, fuel, cs, x, ho, _, _, _ => by cases ho
 | D + 1, t, fuel, cs, x, ho, hx, hw, hB => by
  intro ρ H h hro
  unfold okT at ho
  split at ho
  ·rename_i hu
   obtain ⟨b, rfl, _⟩ := DataW.trod_bool hu hx
   exact ⟨ρ, H, [.bool b], Ext.refl _, fun _ _ h => h, h, hro, .cons (.bool b) .nil, by unfold dat; rw [hu]; exact ⟨b, rfl⟩⟩
  ·rename_i k hu
   obtain ⟨n, rfl, _, hwf⟩ := DataW.trod_int hu hx
   exact ⟨ρ, H, [.int k n], Ext.refl _, fun _ _ h => h, h, hro, .cons (.int k n) .nil, by unfold dat; rw [hu]; exact ⟨n, rfl, hwf⟩⟩
  ·rename_i hu
   obtain ⟨s, rfl, rfl, hs⟩ := DataW.trod_string hu hx
   simp only [DataW.weights, reachBytes, List.all_cons, List.all_nil, Bool.and_true, Array.length_toList, ByteArray.size_data] at hw
   exact ⟨ρ, H, [.string s], Ext.refl _, fun _ _ h => h, h, hro, .cons (.string s) .nil, by unfold dat; rw [hu]; exact ⟨s, rfl, of_decide_eq_true hw, by simp only [Rows.uptoBulk, Array.length_toList, ByteArray.size_data] at hB; omega⟩⟩
  ·rename_i e hu
   simp only [Bool.and_eq_true, decide_eq_true_eq] at ho
   obtain ⟨hpos, hok⟩ := ho
   rcases DataW.trod_slice hu hx with ⟨rfl, _⟩ | ⟨a, len, cap, elems, rest, n, rfl, rfl, rfl, hb, hl, hm, hlen, hel, _, _⟩
   ·exact ⟨ρ, H, [.slice none 0 0], Ext.refl _, fun _ _ h => h, h, hro, .cons .sliceNil .nil, by unfold dat; rw [hu]; exact .inl rfl⟩
   ·by_cases h0 : len = 0
    ·subst h0
     exact ⟨ρ, H, [.slice (some ⟨0, 0, none⟩) 0 0], Ext.refl _, fun _ _ h => h, h, hro, .cons (.slice0 0 0 cap a) .nil, by unfold dat; rw [hu]; exact .inr (.inl ⟨0, rfl⟩)⟩
    ·simp only [DataW.weights, hu, List.all_cons, List.all_append, Bool.and_eq_true, decide_eq_true_eq, List.length_map] at hw
     obtain ⟨hw1, hw2, _⟩ := hw
     simp only [Rows.uptoBulk] at hB
     have hBl := bulk_len (elems.map (·.1))
     rw [List.length_map] at hBl
     have piece : ∀ i, i < len → ∃ ci y, W.cells? 0 (a.add (i * P.cellsOf e)) (P.cellsOf e) = some ci ∧ DataW.trod enc P W 0 (fun _ => true) true n e ci = some y ∧ elems[i]? = some y := fun i hi => by
      have := hel i hi
      have hy : elems[i]? = some elems[i] := List.getElem?_eq_getElem (by omega)
      rw [hy, Option.bind_eq_some_iff] at this
      obtain ⟨ci, h1, h2⟩ := this
      exact ⟨ci, _, h1, h2, hy⟩
     let cs : Nat → List Value := fun i => (W.cells? 0 (a.add (i * P.cellsOf e)) (P.cellsOf e)).getD []
     have hcs : ∀ i, i < len → W.cells? 0 (a.add (i * P.cellsOf e)) (P.cellsOf e) = some (cs i) := fun i hi => by
      obtain ⟨ci, y, h1, _⟩ := piece i hi
      simp only [cs, h1, Option.getD_some]
     obtain ⟨ρ1, H1, uss, e1, x1, h1, r1, l1, p1⟩ := opens_all (B := B) (D := D) len (fun _ => e) cs (fun i hi => by
      obtain ⟨ci, y, q1, q2, q3⟩ := piece i hi
      have : cs i = ci := by simp only [cs, q1, Option.getD_some]
      rw [this]
      exact opens_of D e n ci y hok q2 (weightsAll_get hw2 (by rw [List.getElem?_map, q3]; rfl)) (Nat.le_trans (bulk_get (l := elems.map (·.1)) (i := i) (by rw [List.getElem?_map, q3]; rfl)) (by omega))) ρ H h hro
     have hcl : ∀ i, i < len → (cs i).length = P.cellsOf e := fun i hi => (World.cells?_some (hcs i hi)).2.1

     let all : List Value := (List.range (len * P.cellsOf e)).map fun j => (W.cell? (a.add j)).getD undef
     have hall : all.length = (List.replicate len (P.cellsOf e)).sum := by simp [all]
     have hcell : ∀ j, j < len * P.cellsOf e → W.cell? (a.add j) = some (all[j]?.getD undef) := fun j hj => by
      have hi : j / P.cellsOf e < len := Nat.div_lt_of_lt_mul (by rw [Nat.mul_comm]; exact hj)
      have hr : j % P.cellsOf e < P.cellsOf e := Nat.mod_lt _ hpos
      have := (World.cells?_some (hcs _ hi)).2.2 (j % P.cellsOf e) hr
      rw [add_add, Nat.mul_comm, Nat.div_add_mod, List.getElem?_eq_getElem (by rw [hcl _ hi]; exact hr)] at this
      simp [all, hj, this]
     obtain ⟨f1, f2⟩ := flat_rel (R := RC ρ1) (List.replicate len (P.cellsOf e)) uss all (by simp [l1]) hall (fun i us s hi hs => by
      have hil : i < len := by
       have := (List.getElem?_eq_some_iff.1 hi).1
       omega
      have hse : s = P.cellsOf e := by
       rw [List.getElem?_replicate, if_pos hil] at hs
       injection hs with hs
       exact hs.symm
      subst hse
      have := (p1 i us hi).1
      rw [sum_take_replicate _ _ _ (by omega)]
      have hpc : (all.drop (i * P.cellsOf e)).take (P.cellsOf e) = cs i := by
       apply List.ext_getElem?
       intro j
       rw [List.getElem?_take]
       split
       ·rename_i hj
        rw [List.getElem?_drop]
        have hb1 : i * P.cellsOf e + j < len * P.cellsOf e := by
         calc i * P.cellsOf e + j < i * P.cellsOf e + P.cellsOf e := by omega
          _ = (i + 1) * P.cellsOf e := by rw [Nat.add_mul, Nat.one_mul]
          _ ≤ len * P.cellsOf e := Nat.mul_le_mul_right _ (by omega)
        have q := (World.cells?_some (hcs i hil)).2.2 j hj
        rw [add_add] at q
        rw [← q]
        simp only [all, List.getElem?_map, List.getElem?_range hb1, Option.map_some]
        rw [hcell _ hb1]
        rfl
       ·rename_i hj
        rw [List.getElem?_eq_none (by rw [hcl i hil]; omega)]
      rw [hpc]
      exact this)
     have hblk : a.block < W.heap.size := by
      have := hcell 0 (Nat.mul_pos (by omega) hpos)
      have := World.block_lt_of_cell? W _ this
      rwa [add_block] at this
     obtain ⟨ρ2, e2, n2, h2, r2, x2⟩ := h1.addRO r1 a e uss.flatten all hblk f1 (fun i u hu => by
      have hi : i < len * P.cellsOf e := by
       have := (List.getElem?_eq_some_iff.1 hu).1
       simpa [all] using this
      rw [hcell i hi, hu]
      rfl)
     refine ⟨ρ2, _, [.slice (some ⟨H1.nx, 0, none⟩) len 0], e1.trans e2, fun b k hk => x2 b k (x1 b k hk), h2, r2, .cons ?_ .nil, ?_⟩
     ·have := RC.slice (ρ := ρ2) H1.nx 0 len 0 cap _ n2 hl (fun h => absurd rfl h)
      rwa [show (⟨a, 0, 0⟩ : Loc).a.add 0 = a by simp [Addr.add]] at this
     ·unfold dat
      rw [hu]
      refine .inr (.inr ⟨H1.nx, len, ⟨false, e, uss.flatten⟩, rfl, by omega, by simp [Hp.push], rfl, ?_, ?_, ?_, fun i hi => ?_⟩)
      ·rw [f1.length, hall]
       simp
      ·have : len * P.bytesOf e ≤ (elems.length + rest.length) * P.bytesOf e := Nat.mul_le_mul_right _ (by omega)
       have h3 : reachBytes = 140737488351232 := rfl
       omega
      ·omega
      ·have hus : uss[i]? = some uss[i] := List.getElem?_eq_getElem (by omega)
       have hpc := f2 i _ (P.cellsOf e) hus (by rw [List.getElem?_replicate, if_pos hi])
       rw [sum_take_replicate _ _ _ (by omega)] at hpc
       simp only
       rw [hpc]
       exact dat_ext x2 (p1 i _ hus).2
  ·rename_i fs hu
   simp only [Bool.and_eq_true] at ho
   obtain ⟨⟨hok, hoff⟩, hsum⟩ := ho
   have hsum : (fs.toList.map fun f => P.cellsOf f.type).sum = P.cellsOf t := by simpa using hsum
   obtain ⟨xs, n, rfl, rfl, hcl, hxl, hf⟩ := DataW.trod_struct hu hx
   simp only [DataW.weights, hu] at hw
   simp only [Rows.uptoBulk] at hB
   have hfld : ∀ i, i < fs.size → ∃ f : Field, fs[i]? = some f ∧ f.offset = ((fs.toList.map fun f => P.cellsOf f.type).take i).sum ∧ okT P D f.type = true := fun i hi => by
    refine ⟨fs[i], by simp [hi], ?_, ?_⟩
    ·have := List.all_eq_true.1 hoff i (List.mem_range.2 hi)
     simpa [hi] using this
    ·exact List.all_eq_true.1 hok _ (by simp)
   obtain ⟨ρ1, H1, uss, e1, x1, h1, r1, l1, p1⟩ := opens_all (P := P) (W := W) (B := B) (D := D) fs.size (fun i => (fs[i]?.map (·.type)).getD 0) (fun i => match (fs[i]? : Option Field) with | some f => (cs.drop f.offset).take (P.cellsOf f.type) | none => []) (fun i hi => by
    obtain ⟨f, hfi, _, hokf⟩ := hfld i hi
    have hy : xs[i]? = some xs[i] := List.getElem?_eq_getElem (by omega)
    have := hf i f hfi
    rw [hy] at this
    simp only [hfi, Option.map_some, Option.getD_some]
    exact opens_of D f.type n _ _ hokf this (weightsEach_get hw (i := i) (by rw [List.getElem?_map, Array.getElem?_toList, hfi]; rfl) (by rw [List.getElem?_map, hy]; rfl)) (Nat.le_trans (bulk_get (l := xs.map (·.1)) (i := i) (by rw [List.getElem?_map, hy]; rfl)) (by omega))) ρ H h hro
   have hsz : ∀ {i s : Nat}, (fs.toList.map fun f => P.cellsOf f.type)[i]? = some s → ∃ f : Field, fs[i]? = some f ∧ s = P.cellsOf f.type := fun {i s} hs => by
    rw [List.getElem?_map, Array.getElem?_toList, Option.map_eq_some_iff] at hs
    obtain ⟨f, hf, rfl⟩ := hs
    exact ⟨f, hf, rfl⟩
   obtain ⟨f1, f2⟩ := flat_rel (R := RC ρ1) (fs.toList.map fun f => P.cellsOf f.type) uss cs (by simp [l1]) (by rw [hcl, hsum]) (fun i us s hi hs => by
    obtain ⟨f, hfi, rfl⟩ := hsz hs
    obtain ⟨f', hfi', ho', _⟩ := hfld i (Array.getElem?_eq_some_iff.1 hfi).1
    rw [hfi] at hfi'
    injection hfi' with hfi'
    subst hfi'
    have := (p1 i us hi).1
    simp only [hfi] at this
    rwa [ho'] at this)
   refine ⟨ρ1, H1, uss.flatten, e1, x1, h1, r1, f1, ?_⟩
   unfold dat
   rw [hu]
   refine ⟨by rw [f1.length]; exact hcl, fun i f hfi => ?_⟩
   have hil := (Array.getElem?_eq_some_iff.1 hfi).1
   obtain ⟨f', hfi', ho', _⟩ := hfld i hil
   rw [hfi] at hfi'
   injection hfi' with hfi'
   subst hfi'
   have hus : uss[i]? = some uss[i] := List.getElem?_eq_getElem (by omega)
   have hpc := f2 i _ (P.cellsOf f.type) hus (by rw [List.getElem?_map, Array.getElem?_toList, hfi]; rfl)
   rw [ho', hpc]
   have := (p1 i _ hus).2
   simpa [hfi] using this
  ·rename_i m e hu
   simp only [Bool.and_eq_true, beq_iff_eq] at ho
   obtain ⟨hok, hsum⟩ := ho
   obtain ⟨xs, n, rfl, rfl, hcl, hxl, hf⟩ := DataW.trod_array hu hx
   simp only [DataW.weights, hu] at hw
   simp only [Rows.uptoBulk] at hB
   obtain ⟨ρ1, H1, uss, e1, x1, h1, r1, l1, p1⟩ := opens_all (P := P) (W := W) (B := B) (D := D) m (fun _ => e) (fun i => (cs.drop (i * P.cellsOf e)).take (P.cellsOf e)) (fun i hi => by
    have hy : xs[i]? = some xs[i] := List.getElem?_eq_getElem (by omega)
    have := hf i hi
    rw [hy] at this
    exact opens_of D e n _ _ hok this (weightsAll_get hw (i := i) (by rw [List.getElem?_map, hy]; rfl)) (Nat.le_trans (bulk_get (l := xs.map (·.1)) (i := i) (by rw [List.getElem?_map, hy]; rfl)) (by omega))) ρ H h hro
   obtain ⟨f1, f2⟩ := flat_rel (R := RC ρ1) (List.replicate m (P.cellsOf e)) uss cs (by simp [l1]) (by rw [hcl, ← hsum]; simp) (fun i us s hi hs => by
    have hil : i < m := by
     have := (List.getElem?_eq_some_iff.1 hi).1
     omega
    rw [List.getElem?_replicate, if_pos hil] at hs
    injection hs with hs
    subst hs
    rw [sum_take_replicate _ _ _ (by omega)]
    exact (p1 i us hi).1)
   refine ⟨ρ1, H1, uss.flatten, e1, x1, h1, r1, f1, ?_⟩
   unfold dat
   rw [hu]
   refine ⟨by rw [f1.length]; exact hcl, fun i hi => ?_⟩
   have hus : uss[i]? = some uss[i] := List.getElem?_eq_getElem (by omega)
   have hpc := f2 i _ (P.cellsOf e) hus (by rw [List.getElem?_replicate, if_pos hi])
   rw [sum_take_replicate _ _ _ (by omega)] at hpc
   rw [hpc]
   exact (p1 i _ hus).2
  ·cases ho
end
def datV (P : Program) (H : Hp) (B D : Nat) (t : TypeId) (x : Value) : Prop :=
 match isRowT P t with
 | some true => ∃ us : List Value, x = .agg us.toArray ∧ dat P H B D t us
 | _ => dat P H B D t [x]
def datArgs (P : Program) (H : Hp) (B D : Nat) : List TypeId → List Value → Prop
 | [], [] => True
 | t :: ts, x :: xs => datV P H B D t x ∧ datArgs P H B D ts xs
 | _, _ => False
section
variable {HH : Type} {enc : TypeId × Value → HH} {P : Program} {W : World}
theorem datV_ext {H H' : Hp} (he : HExt H H') {B D : Nat} {t : TypeId} {x : Value} (h : datV P H B D t x) : datV P H' B D t x := by
 unfold datV at h ⊢
 split at h
 ·obtain ⟨us, h1, h2⟩ := h
  exact ⟨us, h1, dat_ext he h2⟩
 ·exact dat_ext he h
theorem datV_of {H : Hp} {ρ : Rho} {B D : Nat} {t : TypeId} {v : Value} {us : List Value} {base : Nat} (hok : okT P D t = true) (hv : Value.okWide P W .any base t v) (hu : All2 (RC ρ) us v.cells.toList) (hd : dat P H B D t us) : ∃ x, RV ρ x v ∧ datV P H B D t x := by
 cases D with
 | zero => cases hok
 | succ D =>
  have single : ∀ {u : Value}, us = [u] → v.cells = #[v] → isRowT P t = some false → ∃ x, RV ρ x v ∧ datV P H B (D + 1) t x := fun {u} e1 e2 e3 => by
   subst e1
   rw [e2] at hu
   cases hu with
   | cons r _ => exact ⟨u, .one (.one r), by unfold datV; rw [e3]; exact hd⟩
  have hd' := hd
  unfold dat at hd
  unfold okT at hok
  split at hok
  ·rename_i ht
   rw [ht] at hd
   obtain ⟨b, hb⟩ := hd
   obtain ⟨_, rfl⟩ := WideShapes.okWide_bool ht hv
   exact single hb rfl (by simp [isRowT, ht])
  ·rename_i k ht
   rw [ht] at hd
   obtain ⟨b, hb, _⟩ := hd
   obtain ⟨_, rfl⟩ := WideShapes.okWide_int ht hv
   exact single hb rfl (by simp [isRowT, ht])
  ·rename_i ht
   rw [ht] at hd
   obtain ⟨b, hb, _⟩ := hd
   obtain ⟨_, rfl⟩ := WideShapes.okWide_string ht hv
   exact single hb rfl (by simp [isRowT, ht])
  ·rename_i e ht
   rw [ht] at hd
   obtain ⟨_, _, _, rfl⟩ := WideShapes.okWide_slice ht hv
   rcases hd with hb | ⟨_, hb⟩ | ⟨_, _, _, hb, _⟩
   ·exact single hb rfl (by simp [isRowT, ht])
   ·exact single hb rfl (by simp [isRowT, ht])
   ·exact single hb rfl (by simp [isRowT, ht])
  ·rename_i fs ht
   obtain ⟨cs, rfl, _⟩ := WideShapes.okWide_struct ht hv
   have : All2 (RC ρ) us cs.toList := hu
   refine ⟨.agg us.toArray, .one ?_, by unfold datV; rw [show isRowT P t = some true by simp [isRowT, ht]]; exact ⟨us, rfl, hd'⟩⟩
   have h2 := RT.agg this
   simpa using h2
  ·rename_i m e ht
   have hv' := hv
   simp only [Value.okWide, ht] at hv'
   obtain ⟨cs, rfl, _⟩ := hv'
   have : All2 (RC ρ) us cs.toList := hu
   refine ⟨.agg us.toArray, .one ?_, by unfold datV; rw [show isRowT P t = some true by simp [isRowT, ht]]; exact ⟨us, rfl, hd'⟩⟩
   have h2 := RT.agg this
   simpa using h2
  ·cases hok
theorem args_open {B D : Nat} {base : Nat} : ∀ (ts : List TypeId) (vs : List Value) (ds : List (DataW HH)) (ps : List MemPlace), DataW.TrodAll enc P W 0 (fun _ => true) true ts vs ds ps → ts.all (okT P D) = true → (∀ (j : Nat) t d, ts[j]? = some t → ds[j]? = some d → (d.weights P t).all (· ≤ reachBytes) = true) → Rows.uptoBulkAll ds ≤ B →
  (∀ (j : Nat) t v, ts[j]? = some t → vs[j]? = some v → Value.okWide P W .any base t v) → ∀ ρ H, RH ρ H W W → Ro H → ∃ (ρ' : Rho) (H' : Hp) (xs : List Value), Ext ρ ρ' ∧ HExt H H' ∧ RH ρ' H' W W ∧ Ro H' ∧ All2 (RV ρ') xs vs ∧ datArgs P H' B D ts xs
 | [], [], [], _, _, _, _, _, _, ρ, H, h, hro => ⟨ρ, H, [], Ext.refl _, fun _ _ h => h, h, hro, .nil, trivial⟩
 | t :: ts, v :: vs, d :: ds, ps, hA, hok, hw, hB, hval, ρ, H, h, hro => by
  simp only [Rows.uptoBulkAll] at hB
  obtain ⟨p, q, ⟨fuel, h1⟩, h2, rfl⟩ := hA
  simp only [List.all_cons, Bool.and_eq_true] at hok
  obtain ⟨ρ1, H1, us, e1, x1, r1, o1, a1, d1⟩ := opens_of (B := B) D t fuel _ _ hok.1 h1 (hw 0 t d rfl rfl) (show Rows.uptoBulk d ≤ B by omega) ρ H h hro
  obtain ⟨x, hx, hd⟩ := datV_of hok.1 (hval 0 t v rfl rfl) a1 d1
  obtain ⟨ρ2, H2, xs, e2, x2, r2, o2, a2, d2⟩ := args_open ts vs ds q h2 hok.2 (fun j t d ht hd => hw (j + 1) t d (by simpa using ht) (by simpa using hd)) (show Rows.uptoBulkAll ds ≤ B by omega) (fun j t v ht hv => hval (j + 1) t v (by simpa using ht) (by simpa using hv)) ρ1 H1 r1 o1
  exact ⟨ρ2, H2, x :: xs, e1.trans e2, fun b k hk => x2 b k (x1 b k hk), r2, o2, .cons (hx.ext e2) a2, datV_ext x2 hd, d2⟩
 | [], _ :: _, _, _, hA, _, _, _, _, _, _, _, _ => by simp [DataW.TrodAll] at hA
 | [], [], _ :: _, _, hA, _, _, _, _, _, _, _, _ => by simp [DataW.TrodAll] at hA
 | _ :: _, [], _, _, hA, _, _, _, _, _, _, _, _ => by simp [DataW.TrodAll] at hA
 | _ :: _, _ :: _, [], _, hA, _, _, _, _, _, _, _, _ => by simp [DataW.TrodAll] at hA
theorem trodAll_below {W' : World} (hl : laidOutB P = true) (hb : Below W.heap.size W W') : ∀ (ts : List TypeId) (vs : List Value) (ds : List (DataW HH)) (ps : List MemPlace), DataW.TrodAll enc P W 0 (fun _ => true) true ts vs ds ps → ts.all (fun t => P.readableRec t && decide (t < P.types.size)) = true →
  DataW.TrodAll enc P W' 0 (fun b => decide (b < W.heap.size)) true ts vs ds ps
 | [], [], [], _, h, _ => h
 | t :: ts, v :: vs, d :: ds, ps, hA, hr => by
  obtain ⟨p, q, h1, h2, rfl⟩ := hA
  simp only [List.all_cons, Bool.and_eq_true, decide_eq_true_eq] at hr
  obtain ⟨⟨hr1, hr2⟩, hr3⟩ := hr
  exact ⟨p, q, Below.trod hl hr1 hr2 h1 hb (by obtain ⟨m, hm⟩ := h1; exact DataW.trod_lt m _ _ _ hm), trodAll_below hl hb ts vs ds q h2 (by simpa using hr3), rfl⟩
 | [], _ :: _, _, _, hA, _ => by simp [DataW.TrodAll] at hA
 | [], [], _ :: _, _, hA, _ => by simp [DataW.TrodAll] at hA
 | _ :: _, [], _, _, hA, _ => by simp [DataW.TrodAll] at hA
 | _ :: _, _ :: _, [], _, hA, _ => by simp [DataW.TrodAll] at hA
theorem RH.start (W : World) : RH (fun _ => none) ⟨fun _ => none, 0⟩ W W :=
 ⟨Below.refl _ _, (fun b k h => by cases h), (fun b b' k k' l l' h => by cases h), (fun b _ => rfl), fun b l h => by cases h⟩
theorem law_calls {f : FuncId} {ts : List TypeId} {B D base : Nat} {args : Array Value} {ds : List (DataW HH)} {ps : List MemPlace} (hA : DataW.TrodAll enc P W 0 (fun _ => true) true ts args.toList ds ps) (hok : ts.all (okT P D) = true)
  (hw : ∀ (j : Nat) t d, ts[j]? = some t → ds[j]? = some d → (d.weights P t).all (· ≤ reachBytes) = true) (hB : Rows.uptoBulkAll ds ≤ B) (hval : ∀ (j : Nat) t v, ts[j]? = some t → args[j]? = some v → Value.okWide P W .any base t v)
  (hl : laidOutB P = true) (hr : ts.all (fun t => P.readableRec t && decide (t < P.types.size)) = true)
  (law : ∀ (H : Hp) (xs : List Value), Ro H → datArgs P H B D ts xs → ACalls P f xs H fun v _ => v = .bool true) :
  Calls P f args W fun e W' => e = .returned (.bool true) ∧ Below W.heap.size W W' ∧ DataW.TrodAll enc P W' 0 (fun b => decide (b < W.heap.size)) true ts args.toList ds ps := by
 obtain ⟨ρ, H, xs, _, _, hR, hro, hx, hd⟩ := args_open (B := B) ts args.toList ds ps hA hok hw hB (fun j t v ht hv => hval j t v ht (by simpa using hv)) _ _ (RH.start W) (fun b k h => by cases h)
 have := law H xs hro hd ρ W W args.toList hx hR
 rw [Array.toArray_toList] at this
 refine this.mono fun e W' he => ?_
 cases e with
 | returned v =>
  obtain ⟨ρ', u, H', _, h2, h3, rfl⟩ := he
  have hv := rv_bool h2
  subst hv
  exact ⟨rfl, h3.below, trodAll_below hl h3.below ts _ ds ps hA hr⟩
 | panicked c => exact he.elim
 | outgrown => exact he.elim
end
section
variable {P : Program} {os : List AO} {K : Tm → Hp → Prop} {t : Tm} {H H' : Hp} {d : Option Nat} {i : AI} {v : Value} {x y : Opd}
inductive Nf : Value → Value → Prop
 | int (k : IntKind) (n : Int) : Nf (.int k n) (.int k n)
 | bool (b : Bool) : Nf (.bool b) (.bool b)
 | slice (p : Option Addr) (n c : Nat) : Nf (.slice p n c) (.slice p n c)
 | pointer (p : Option Addr) : Nf (.pointer p) (.pointer p)
 | agg (xs : Array Value) : Nf (.agg xs) (.agg xs)
 | tuple (xs : Array Value) : Nf (.tuple xs) (.tuple xs)
 | string (s : ByteArray) : Nf (.string s) (.string s)
 | nilIface : Nf .nilIface .nilIface
 | iface (t : TypeId) (v : Value) : Nf (.iface t v) (.iface t v)
 | any (v : Value) : Nf v v
theorem Nf.eq {u v : Value} (h : Nf u v) : u = v := by cases h <;> rfl
theorem sN {i : AI} {v' : Value} (hn : aRun P i (ev t) H (fun v H' => AWl P os K (upd t d v) H') = ∃ v H', aI i (ev t) H = some (v, H') ∧ AWl P os K (upd t d v) H') (h : aI i (ev t) H = some (v, H')) (nf : Nf v v') (k : AWl P os K (upd t d v') H') : AWl P (⟨d, i, none⟩ :: os) K t H := by
 show aRun P i (ev t) H _
 rw [hn]
 exact ⟨v, H', h, by rw [nf.eq]; exact k⟩
theorem sC {f : FuncId} {xs : List Opd} {K' : Value → Hp → Prop} (h : ACalls P f (xs.map (ev t)) H K') (k : ∀ v H', K' v H' → AWl P os K (upd t d v) H') : AWl P (⟨d, .call f xs, none⟩ :: os) K t H := h.mono k
theorem sE (k : K t H) : AWl P [] K t H := k
theorem upd_self {k : Nat} {u : Value} (h : t k = u) : upd t (some k) u = t := by
 funext j
 simp only [upd]
 split
 ·rename_i e; rw [e, h]
 ·rfl
theorem e_iadr {sz b o n c : Nat} {kd : IntKind} {j : Int} (hx : ev t x = .slice (some ⟨b, o, none⟩) n c) (hy : ev t y = .int kd j) (h : 0 ≤ j ∧ j < n) : aI (.iadr sz x y) (ev t) H = some (.pointer (some ⟨b, o + j.toNat * sz, none⟩), H) := by
 simp only [aI, hx, hy, if_pos h]
theorem e_load {b o : Nat} (hx : ev t x = .pointer (some ⟨b, o, none⟩)) (h : H.get b o 1 = some [v]) : aI (.load x) (ev t) H = some (v, H) := by
 simp only [aI, hx, h]
theorem e_shr {tk : Nat} {k k' : IntKind} {a b : Int} (hx : ev t x = .int k a) (hy : ev t y = .int k' b) (h : 0 ≤ b) : aI (.bin tk .shr x y) (ev t) H = some (.int k (a.fdiv (2 ^ min b.toNat k.bits)), H) := by
 simp only [aI, hx, hy, aBin, isShift, aShift, if_neg (show ¬ b < 0 by omega)]
 rfl
theorem get_sl {b o n c : Nat} {xs : List Value} {j : Nat} (h : H.sl 1 (.slice (some ⟨b, o, none⟩) n c) = some xs) (hj : j < n) (hv : xs[j]? = some v) : H.get b (o + j) 1 = some [v] := by
 unfold Hp.sl at h
 simp only at h
 rw [if_neg (by omega)] at h
 unfold Hp.get at h ⊢
 split at h
 ·rename_i k hk
  rw [Nat.mul_one] at h
  split at h
  ·rename_i hle
   injection h with h
   rw [if_pos (by omega)]
   rw [← h, List.getElem?_take, if_pos hj, List.getElem?_drop] at hv
   have hlt : o + j < k.cells.length := by omega
   rw [List.getElem?_eq_getElem hlt] at hv
   injection hv with hv
   rw [← hv]
   congr 1
   rw [List.drop_eq_getElem_cons hlt]
   rfl
  ·cases h
 ·cases h
theorem AW_loop {x : AC} {Q : Exit → Tm → Hp → Prop} (I : Tm → Hp → Prop) (μ : Tm → Hp → Nat) (h0 : I t H) (h : ∀ t H, I t H → AW P x (xThen (fun t' H' => I t' H' ∧ μ t' H' < μ t H) Q) t H) : AW P (.loop x) Q t H := ⟨I, μ, h0, h⟩
theorem AW_cond {c : Opd} {x y : AC} {Q : Exit → Tm → Hp → Prop} {b : Bool} (hb : ev t c = .bool b) (h1 : b = true → AW P x Q t H) (h2 : b = false → AW P y Q t H) : AW P (.cond c x y) Q t H := by
 refine ⟨b, hb, ?_⟩
 cases b
 ·exact h2 rfl
 ·exact h1 rfl
def Wf (H : Hp) : Prop := ∀ b k, H.m b = some k → b < H.nx
def Frm (H H' : Hp) : Prop := H.nx ≤ H'.nx ∧ ∀ b, b < H.nx → H'.m b = H.m b
theorem Frm.refl (H : Hp) : Frm H H := ⟨Nat.le_refl _, fun _ _ => rfl⟩
theorem Frm.trans {A B C : Hp} (h : Frm A B) (k : Frm B C) : Frm A C := ⟨Nat.le_trans h.1 k.1, fun b hb => (k.2 b (Nat.lt_of_lt_of_le hb h.1)).trans (h.2 b hb)⟩
theorem Frm.push (H : Hp) (x : Blk) : Frm H (H.push x) := ⟨Nat.le_succ _, fun b hb => by show (if b = H.nx then _ else _) = _; rw [if_neg (by omega)]⟩
theorem Frm.set {H0 H : Hp} (h : Frm H0 H) {b : Nat} (hb : H0.nx ≤ b) (x : Blk) : Frm H0 (H.set b x) := ⟨h.1, fun c hc => by show (if c = b then _ else _) = _; rw [if_neg (by omega)]; exact h.2 c hc⟩
theorem Frm.cut {H0 H : Hp} (h : Frm H0 H) {b : Nat} (hb : H0.nx ≤ b) : Frm H0 (H.cut b) := ⟨h.1, fun c hc => by show (if c = b then _ else _) = _; rw [if_neg (by omega)]; exact h.2 c hc⟩
theorem acallsW {f : FuncId} {fn : Func} {c : AC} {rs : List AR} {xs : List Value} {K : Value → Hp → Prop} (hf : P.funcs[f]? = some fn) (hc : cF P fn = some (c, rs)) (hx : xs.length ≤ fn.ntmps) (hs : Wf H → AW P c (Fin rs K) (fun i => xs.getD i undef) H) : ACalls P f xs H K := fun ρ w0 w ys h1 h2 =>
 acalls hf hc hx (hs fun b k hk => h2.live hk) ρ w0 w ys h1 h2
theorem e_store {n b o : Nat} {k : Blk} {u : Value} (hx : ev t x = .pointer (some ⟨b, o, none⟩)) (hy : ev t y = u) (hu : notTup u = true) (hn : (cellsOf u).length = n) (hk : H.m b = some k) (hrw : k.rw = true) (hty : k.e.isTy = true) (hl : o + n ≤ k.cells.length) :
  aI (.store n x y) (ev t) H = some (undef, H.set b { k with cells := k.cells.take o ++ cellsOf u ++ k.cells.drop (o + n) }) := by
 simp only [aI, hx, hy, hu, hn, and_self, if_true, Hp.put, hk, hrw, hty]
 rw [if_pos (by omega)]
 rfl
theorem e_loadA {n b o : Nat} {k : Blk} {xs : List Value} (hx : ev t x = .pointer (some ⟨b, o, none⟩)) (hk : H.m b = some k) (hl : o + n ≤ k.cells.length) (hxs : (k.cells.drop o).take n = xs) : aI (.loadA n x) (ev t) H = some (.agg xs.toArray, H) := by
 simp only [aI, hx, Hp.get, hk, if_pos hl, hxs]
 rfl
theorem get_of {b o n : Nat} {k : Blk} (hk : H.m b = some k) (hl : o + n ≤ k.cells.length) : H.get b o n = some ((k.cells.drop o).take n) := by
 simp only [Hp.get, hk, if_pos hl]
def Acc (H : Hp) (lo : Nat) (e : TypeId) (sz : Nat) (v : Value) (cells : List Value) (n : Nat) : Prop :=
 cells.length = n * sz ∧ ((n = 0 ∧ v = .slice none 0 0) ∨ ∃ b, lo ≤ b ∧ v = .slice (some ⟨b, 0, none⟩) n sz ∧ H.m b = some ⟨true, e, cells⟩)
theorem Acc.nil (H : Hp) (lo : Nat) (e : TypeId) (sz : Nat) : Acc H lo e sz (.slice none 0 0) [] 0 := ⟨by simp, .inl ⟨rfl, rfl⟩⟩
theorem Acc.frm {H H' : Hp} {lo : Nat} {e : TypeId} {sz : Nat} {v : Value} {cells : List Value} {n : Nat} (h : Acc H lo e sz v cells n) (hw : Wf H) (hf : Frm H H') : Acc H' lo e sz v cells n := by
 obtain ⟨h1, h2⟩ := h
 refine ⟨h1, ?_⟩
 rcases h2 with h2 | ⟨b, h3, h4, h5⟩
 ·exact .inl h2
 ·exact .inr ⟨b, h3, h4, by rw [hf.2 b (hw b _ h5)]; exact h5⟩
theorem Wf.push {H : Hp} (h : Wf H) (x : Blk) : Wf (H.push x) := fun b k hk => by
 replace hk : (if b = H.nx then some x else H.m b) = some k := hk
 show b < H.nx + 1
 by_cases e : b = H.nx
 ·omega
 ·rw [if_neg e] at hk
  have := h b k hk
  omega
theorem Wf.cut {H : Hp} (h : Wf H) (c : Nat) : Wf (H.cut c) := fun b k hk => by
 replace hk : (if b = c then none else H.m b) = some k := hk
 by_cases e : b = c
 ·rw [if_pos e] at hk; cases hk
 ·rw [if_neg e] at hk
  exact h b k hk
theorem Wf.set {H : Hp} (h : Wf H) {c : Nat} (hc : c < H.nx) (x : Blk) : Wf (H.set c x) := fun b k hk => by
 replace hk : (if b = c then some x else H.m b) = some k := hk
 by_cases e : b = c
 ·subst e; exact hc
 ·rw [if_neg e] at hk
  exact h b k hk
def Low (lo : Nat) (H H' : Hp) : Prop := H.nx ≤ H'.nx ∧ ∀ b, b < lo → H'.m b = H.m b
theorem Low.trans {lo : Nat} {A B C : Hp} (h : Low lo A B) (k : Low lo B C) : Low lo A C := ⟨Nat.le_trans h.1 k.1, fun b hb => (k.2 b hb).trans (h.2 b hb)⟩
theorem Low.refl (lo : Nat) (A : Hp) : Low lo A A := ⟨Nat.le_refl _, fun _ _ => rfl⟩
theorem Low.push {lo : Nat} (H : Hp) (h : lo ≤ H.nx) (x : Blk) : Low lo H (H.push x) := ⟨Nat.le_succ _, fun b hb => by show (if b = H.nx then _ else _) = _; rw [if_neg (by omega)]⟩
theorem Low.cut {lo : Nat} (H : Hp) {c : Nat} (h : lo ≤ c) : Low lo H (H.cut c) := ⟨Nat.le_refl _, fun b hb => by show (if b = c then _ else _) = _; rw [if_neg (by omega)]⟩
theorem Low.frm {H H' : Hp} (h : Low H.nx H H') : Frm H H' := h
variable {p q : AP} {cs : List AO}
end
end Go.Proofs.YtjmjkdelkaflmaaGreatDoor.Abs
