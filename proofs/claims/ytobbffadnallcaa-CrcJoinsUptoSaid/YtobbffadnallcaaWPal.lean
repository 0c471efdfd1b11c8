/- Small laws that the texts of wip/pp lean on beside the print's words: a slice held against nil; bytes made of a constant or of a string. -/
import Derived.Test.YtobbffadnallcaaWMore
import Derived.Lib.SliceRun
set_option linter.unusedVariables false
set_option linter.unusedSimpArgs false
namespace Go.Proofs.YtobbffadnallcaaW.PrintWords
open Go.RowKit
section
variable {P : Program} {ops : Array Oper} {rest : List Oper} {o : Oper} {a : Act} {Q : Exit → Act → World → Prop}

/-- A row that is nil where it is empty, held against nil. -/
theorem nil_eql {α : Type} {d : Kd α} {w W : World} {e base : Nat} {ok : Nat → Prop} {A : Option Addr} {n c : Nat} {xs : List α} {T e' : TypeId}
    (hT : P.underlying T = some (.slice e')) (h : d.R e w base ok (.slice A n c) xs) (hn : xs = [] → Value.slice A n c = .slice none 0 0) :
    (binOp .eql T (.slice A n c) (.slice none 0 0)).run P W = .ok (.bool ((xs.length : Int) == 0)) W := by
  rw [Lib.run_eql_slice_nil W T e' A n c 0 0 hT]
  have hq : A.isNone = ((xs.length : Int) == 0) := by
    rcases Nat.eq_zero_or_pos xs.length with h0 | h0
    · have he := hn (List.eq_nil_of_length_eq_zero h0)
      injection he with h1 _ _
      subst h1
      simp [h0]
    · obtain ⟨g, cap, he, _⟩ := Kd.R_form h h0
      injection he with h1 _ _
      subst h1
      have : ((xs.length : Int) == 0) = false := by
        rw [beq_eq_false_iff_ne]
        omega
      rw [this]
      rfl
  rw [hq]
theorem cells_only {w w' : World} {A : Option Addr} {n : Nat} {xs : List Int} {k : IntKind} (h : (Kd.int k).C w A n xs) (hc : ∀ x : Addr, w'.cell? x = w.cell? x) : (Kd.int k).C w' A n xs :=
  Kd.C_of_reads (d := (0 : Int)) (h1 := fun _ => rfl) (by
    have hr := Kd.reads_of_C (enc := Value.int k) (d := (0 : Int)) (h1 := fun _ => rfl) h
    refine ⟨hr.1, hr.2.1, fun hn => ?_⟩
    obtain ⟨ad, e, hr2⟩ := hr.2.2 hn
    exact ⟨ad, e, fun j hj => (hc _).trans (hr2 j hj)⟩)
theorem marked_cells {W W' : World} {g : Nat} {cells : Array Value} {e : TypeId} {f1 f2 : Nat × Nat} (hk : ∀ k, k ≠ g → W'.heap[k]? = W.heap[k]?) (h1 : W.heap[g]? = some (.cells cells e f1)) (h2 : W'.heap[g]? = some (.cells cells e f2)) (x : Addr) : W'.cell? x = W.cell? x := by
  by_cases hx : x.block = g
  · unfold World.cell?
    rw [hx, h1, h2]
  · unfold World.cell?
    rw [hk _ hx]
/-- '[]byte("..")' of a constant: the literal's row is marked behind its end, and is only read from then on. -/
theorem Kd.V_conv {w0 W : World} (base : Nat) (hgd : o.guard = none) (s : Operand) (t e : TypeId)
    (ho : o.op = .convert t t s) (ht : P.underlying t = some (.slice e)) (he : P.underlying e = some (.int .u8))
    (v : Value) (xs : List Int) (ok : Nat → Prop) (hs : a.eval s = v) (hx : 0 < xs.length) (HO : (Kd.int .u8).R e W base ok v xs) (HB : Below base w0 W) (hbase : base ≤ W.heap.size)
    (h : ∀ v1 w1, (Kd.int .u8).V e w1 base ok v1 xs → Below base w0 w1 → W.grownBy w1 v.ownBlock → (v1.ownBlock = v.ownBlock ∨ ∃ b, v1.ownBlock = some b ∧ W.heap.size ≤ b) → wpList P ops Q rest (a.put o.dst v1) w1) :
    wpList P ops Q (o :: rest) a W := by
  obtain ⟨g, cap, hv, hb, hlt, cells, hc⟩ := Kd.R_form HO hx
  subst hv
  have hsh : W.shape? g = some (e, cells.size) := by
    unfold World.shape?
    rw [hc]
  have hfz : ∀ k : Nat, k ≠ g → (W.freeze ⟨g, cells.size, none⟩ 1).heap[k]? = W.heap[k]? := by
    intro k hk
    simp [World.freeze, Array.getElem?_modify, Ne.symm hk]
  have hsz : (W.freeze ⟨g, cells.size, none⟩ 1).heap.size = W.heap.size := by simp [World.freeze]
  have hg : W.grownBy (W.freeze ⟨g, cells.size, none⟩ 1) (some g) :=
    ⟨by simp [World.freeze], by simp [World.freeze], by simp [World.freeze], by rw [hsz]; exact Nat.le_refl _, fun k _ hne => hfz k (fun hk => hne (by rw [hk]))⟩
  have hnew : (W.freeze ⟨g, cells.size, none⟩ 1).heap[g]? = some (.cells cells e (cells.size, cells.size + 1)) := by
    simp [World.freeze, Array.getElem?_modify, hc]
  have hrun : (execOp a.eval o).run P W = .ok (.value (.slice (some ⟨g, 0, none⟩) xs.length cap)) (W.freeze ⟨g, cells.size, none⟩ 1) := by
    simp [execOp, ho, hs, convert, run_underlying ht, run_underlying he, markStringish, hsh]
  refine event_run hgd hrun (h _ _ (Kd.V_mk (Kd.R_reads' HO).2.1 fun W' hW => ?_) (HB.grown hg hbase (fun k hk => by injection hk with hk; omega)) hg (.inl rfl))
  have hok : ok g := HO.1 g rfl
  have hW' : W'.heap[g]? = some (.cells cells e (cells.size, cells.size + 1)) := (hW g hok (by rw [hsz]; exact hlt)).trans hnew
  have hgl : g < W'.heap.size := (Array.getElem?_eq_some_iff.1 hW').1
  have hF := Kd.R_F HO { W' with heap := W'.heap.setIfInBounds g (.cells cells e) } (fun k hk hkl => by
    by_cases hkg : k = g
    · subst hkg
      simp [hgl, hc]
    · have h1 : (W'.heap.setIfInBounds g (Obj.cells cells e))[k]? = W'.heap[k]? := by simp [Ne.symm hkg]
      exact h1.trans ((hW k hk (by rw [hsz]; exact hkl)).trans (hfz k hkg)))
  exact cells_only hF (marked_cells (W := { W' with heap := W'.heap.setIfInBounds g (.cells cells e) }) (g := g) (fun k hk => by simp [Ne.symm hk]) (by simp [hgl]; rfl) hW')
/-- '[]byte(s)': a new row, marked behind its end: it is only read. -/
theorem Kd.V_bytes {w0 W : World} (base : Nat) (hgd : o.guard = none) {N : Tmp} (_hd : o.dst = some N) (x : Operand) (src t e : TypeId)
    (ho : o.op = .convert src t x) (hsrc : P.underlying src = some .string) (ht : P.underlying t = some (.slice e)) (he : P.underlying e = some (.int .u8))
    (s : ByteArray) (hs : a.eval x = .string s) (hm : s.size ≤ 9223372036854775807) (HB : Below base w0 W) (hbase : base ≤ W.heap.size)
    (h : ∀ v1 w1, (Kd.int .u8).V e w1 base (fun k_ => W.heap.size ≤ k_) v1 (bytesOf s) → Below base w0 w1 → W.grownBy w1 none → (∃ b, v1.ownBlock = some b ∧ W.heap.size ≤ b) → wpList P ops Q rest (a.put o.dst v1) w1) :
    wpList P ops Q (o :: rest) a W := by
  have hrun : (execOp a.eval o).run P W = .ok (.value (.slice (some ⟨W.heap.size, 0, none⟩) (bytesOf s).length (grownCap W s.size 0 e))) (Lib.bytesWorld W e s) := by
    rw [bytesOf_length]
    have := print_bytes (P := P) src t e hsrc ht he s W
    simp [execOp, ho, hs, this]
  refine event_run hgd hrun (h _ _ (Kd.V_mk ?_ fun W' hW => ?_) (bytes_below HB hbase e s) ⟨rfl, rfl, rfl, by rw [Lib.bytesWorld_size]; omega, fun k hk _ => Lib.bytesWorld_at_old W e s k hk⟩ ⟨W.heap.size, rfl, Nat.le_refl _⟩)
  · rw [bytesOf_length]
    exact grownCap_ge W s.size 0 e
  · have hr := bytes_reads W e s hm
    have hb : W'.heap[W.heap.size]? = (Lib.bytesWorld W e s).heap[W.heap.size]? := hW _ (Nat.le_refl _) (by rw [Lib.bytesWorld_size]; omega)
    rw [bytesOf_length]
    refine Kd.C_of_reads (d := (0 : Int)) (h1 := fun _ => rfl) ⟨hr.1, hr.2.1, fun hn => ?_⟩
    obtain ⟨ad, e1, hr2⟩ := hr.2.2 hn
    refine ⟨ad, e1, fun j hj => ?_⟩
    injection e1 with e1
    subst e1
    have := hr2 j hj
    rw [add_plain] at this ⊢
    have hrd : rdOf (0 : Int) (bytesOf s) (j : Int) = (bytesOf s).getD j 0 := by simp [rdOf]
    exact (World.cell?_of_block (a := ⟨W.heap.size, j, none⟩) hb).trans this
end
end Go.Proofs.YtobbffadnallcaaW.PrintWords
