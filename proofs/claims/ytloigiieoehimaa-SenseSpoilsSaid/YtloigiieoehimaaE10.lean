/- Sense: unkey. -/
import Derived.Test.YtloigiieoehimaaE9
set_option linter.unusedVariables false
set_option linter.unusedSimpArgs false
set_option maxRecDepth 100000
namespace Go.Proofs.Ytloigiieoehimaa.Abs
open Go Go.RowKit
def unkR (g : Sn) (xs : List Int) : Sn := if unk (xs.getD 0 0) = true then unkS g xs else g
theorem unkey_call {H : Hp} {b n : Nat} {g : Sn} {xs : List Int} {x : Value} (hk : H.m b = some ⟨true, 25, [.int .u8 g.key, .int .u16 g.code, .int .u64 g.info, .bool g.hi, .int .i64 g.fld, .int .i64 g.bit, .bool g.hf, .bool g.ic]⟩) (hx : Sl H 1 n (xs.map (Value.int .u8)) x) (hb : ByteL xs) (ha : Apart b x) (hn : 3 ≤ n) :
    ACalls Try.prog 24 [.pointer (some ⟨b, 0, none⟩), x] H (fun v H' => v = .bool (unk (xs.getD 0 0)) ∧ Stt [b] H H' [⟨some b, true, ⟨true, 25, [.int .u8 (unkR g xs).key, .int .u16 (unkR g xs).code, .int .u64 (unkR g xs).info, .bool (unkR g xs).hi, .int .i64 (unkR g xs).fld, .int .i64 (unkR g xs).bit, .bool (unkR g xs).hf, .bool (unkR g xs).ic]⟩⟩]) := by
  refine acallsW Try.func24 f24_ok (Nat.le_of_ble_eq_true rfl) fun hw => ?_
  have st : Stt [b] H H [] := Stt.start hw
  replace st := st.mine hk rfl (by simp) (by simp)
  unfold f24c
  show AWl _ _ _ _ _
  refine aN rfl rfl (by constructor) ?_
  refine sE ?_
  show AWl _ _ _ _ _
  refine aMovV x rfl ?_
  refine aIxB (st.slcX hx ha) rfl rfl (by omega) fun b6 o6 g6 => ?_
  refine aLdG rfl g6 ?_
  refine aN rfl rfl (by constructor) ?_
  refine aN rfl rfl (by constructor) ?_
  refine aN rfl rfl (by constructor) ?_
  refine gCase 10 rfl (fun h1 => ?_) (fun h1 => ?_)
  · refine gF rfl (by decide) ?_
    refine gF rfl (by decide) ?_
    refine gF rfl (by decide) ?_
    refine gF rfl (by decide) ?_
    refine gF rfl (by decide) ?_
    refine aN rfl rfl (by constructor) ?_
    refine aN rfl rfl (by constructor) ?_
    refine gF rfl (by decide) ?_
    refine gF rfl (by decide) ?_
    refine gF rfl (by decide) ?_
    refine gF rfl (by decide) ?_
    refine gF rfl (by decide) ?_
    refine gF rfl (by decide) ?_
    refine gU rfl ?_
    refine gU rfl ?_
    refine gU rfl ?_
    refine gU rfl ?_
    refine gU rfl ?_
    refine gF rfl (by decide) ?_
    refine aN rfl rfl (by constructor) ?_
    refine sE ?_
    show AW _ (.cond _ _ _) _ _ _
    refine cT rfl ?_
    show AWl _ _ _ _ _
    refine aN rfl rfl (by constructor) ?_
    refine sE ?_
    refine ⟨_, out1 (r_tmp rfl (by constructor)), ?_⟩
    have hu : unk (xs.getD 0 0) = false := by
      rw [show ((0 : Int)).toNat = 0 from rfl] at h1
      unfold unk; simp_all
    exact ⟨by rw [hu], by unfold unkR; rw [if_neg (by rw [hu]; decide)]; exact st.pick 0 rfl⟩
  · refine gT rfl ?_
    refine aMovV x rfl ?_
    refine gT rfl ?_
    refine aIxB (st.slcX hx ha) rfl rfl (by omega) fun b12 o12 g12 => ?_
    refine gT rfl ?_
    refine aLdG rfl g12 ?_
    refine gT rfl ?_
    refine aN rfl rfl (by constructor) ?_
    refine gT rfl ?_
    refine aN rfl rfl (by constructor) ?_
    refine aN rfl rfl (by constructor) ?_
    refine aN rfl rfl (by constructor) ?_
    refine gCase 17 rfl (fun h2 => ?_) (fun h2 => ?_)
    · refine gF rfl (by decide) ?_
      refine gF rfl (by decide) ?_
      refine gF rfl (by decide) ?_
      refine gF rfl (by decide) ?_
      refine gF rfl (by decide) ?_
      refine gF rfl (by decide) ?_
      refine gU rfl ?_
      refine gU rfl ?_
      refine gU rfl ?_
      refine gU rfl ?_
      refine gU rfl ?_
      refine gF rfl (by decide) ?_
      refine aN rfl rfl (by constructor) ?_
      refine sE ?_
      show AW _ (.cond _ _ _) _ _ _
      refine cT rfl ?_
      show AWl _ _ _ _ _
      refine aN rfl rfl (by constructor) ?_
      refine sE ?_
      refine ⟨_, out1 (r_tmp rfl (by constructor)), ?_⟩
      have hu : unk (xs.getD 0 0) = false := by
        rw [show ((0 : Int)).toNat = 0 from rfl] at h1
        rw [show ((0 : Int)).toNat = 0 from rfl] at h2
        unfold unk; simp_all
      exact ⟨by rw [hu], by unfold unkR; rw [if_neg (by rw [hu]; decide)]; exact st.pick 0 rfl⟩
    · refine gT rfl ?_
      refine aMovV x rfl ?_
      refine gT rfl ?_
      refine aIxB (st.slcX hx ha) rfl rfl (by omega) fun b19 o19 g19 => ?_
      refine gT rfl ?_
      refine aLdG rfl g19 ?_
      refine gT rfl ?_
      refine aN rfl rfl (by constructor) ?_
      refine gT rfl ?_
      refine aN rfl rfl (by constructor) ?_
      refine gT rfl ?_
      refine aN rfl rfl (by constructor) ?_
      refine gCase 23 rfl (fun h3 => ?_) (fun h3 => ?_)
      · refine gT rfl ?_
        refine aMovV x rfl ?_
        refine gT rfl ?_
        refine aIxB (st.slcX hx ha) rfl rfl (by omega) fun b25 o25 g25 => ?_
        refine gT rfl ?_
        refine aLdG rfl g25 ?_
        refine gT rfl ?_
        refine aN rfl rfl (by constructor) ?_
        refine gT rfl ?_
        refine aN rfl rfl (by constructor) ?_
        refine gT rfl ?_
        refine aN rfl rfl (by constructor) ?_
        refine aN rfl rfl (by constructor) ?_
        refine sE ?_
        show AW _ (.cond _ _ _) _ _ _
        refine cC' rfl (fun h4 => ?_) (fun h4 => ?_)
        · show AWl _ _ _ _ _
          refine aN rfl rfl (by constructor) ?_
          refine sE ?_
          refine ⟨_, out1 (r_tmp rfl (by constructor)), ?_⟩
          have hu : unk (xs.getD 0 0) = false := by
            rw [show ((0 : Int)).toNat = 0 from rfl] at h1
            rw [show ((0 : Int)).toNat = 0 from rfl] at h2
            rw [show ((0 : Int)).toNat = 0 from rfl] at h3
            rw [show ((0 : Int)).toNat = 0 from rfl] at h4
            unfold unk; simp_all
          exact ⟨by rw [hu], by unfold unkR; rw [if_neg (by rw [hu]; decide)]; exact st.pick 0 rfl⟩
        · show AWl _ _ _ _ _
          refine aN rfl rfl (by constructor) ?_
          refine aN rfl rfl (by constructor) ?_
          refine aN rfl rfl (by constructor) ?_
          refine aMovV x rfl ?_
          refine aIxB (st.slcX hx ha) rfl rfl (by omega) fun b35 o35 g35 => ?_
          refine aLdG rfl g35 ?_
          refine aN rfl rfl (by constructor) ?_
          refine aN rfl rfl (by constructor) ?_
          refine aN rfl rfl (by constructor) ?_
          refine aN rfl rfl (by constructor) ?_
          refine aSt st 0 rfl rfl rfl rfl (by first | rfl | simp [cellsOf, *]) (by first | decide | simp [*]) (by repeat constructor) fun H5 st => ?_
          refine aN rfl rfl (by constructor) ?_
          refine aN rfl rfl (by constructor) ?_
          refine aSt st 0 rfl rfl rfl rfl (by first | rfl | simp [cellsOf, *]) (by first | decide | simp [*]) (by repeat constructor) fun H6 st => ?_
          refine aN rfl rfl (by constructor) ?_
          refine aN rfl rfl (by constructor) ?_
          refine aSt st 0 rfl rfl rfl rfl (by first | rfl | simp [cellsOf, *]) (by first | decide | simp [*]) (by repeat constructor) fun H7 st => ?_
          refine sE ?_
          show AWl _ _ _ _ _
          refine aMovV x rfl ?_
          refine aIxB (st.slcX hx ha) rfl rfl (by omega) fun b46 o46 g46 => ?_
          refine aLdG rfl g46 ?_
          refine aN rfl rfl (by constructor) ?_
          refine aN rfl rfl (by constructor) ?_
          refine sE ?_
          show AW _ (.cond _ _ _) _ _ _
          refine cC' rfl (fun h8 => ?_) (fun h8 => ?_)
          · show AWl _ _ _ _ _
            refine aN rfl rfl (by constructor) ?_
            refine aMovV x rfl ?_
            refine aIxB (st.slcX hx ha) rfl rfl (by omega) fun b52 o52 g52 => ?_
            refine aLdG rfl g52 ?_
            refine aN rfl rfl (by constructor) ?_
            refine aN rfl rfl (by constructor) ?_
            refine aN rfl rfl (by constructor) ?_
            refine aN rfl rfl (by constructor) ?_
            refine aSt st 0 rfl rfl rfl rfl (by first | rfl | simp [cellsOf, *]) (by first | decide | simp [*]) (by repeat constructor) fun H9 st => ?_
            refine sE ?_
            show AWp _ _ _ _ _
            refine aN rfl rfl (by constructor) ?_
            refine aMovV x rfl ?_
            refine aIxB (st.slcX hx ha) rfl rfl (by omega) fun b60 o60 g60 => ?_
            refine aLdG rfl g60 ?_
            refine aN rfl rfl (by constructor) ?_
            refine aN rfl rfl (by constructor) ?_
            refine aMovV x rfl ?_
            refine aIxB (st.slcX hx ha) rfl rfl (by omega) fun b65 o65 g65 => ?_
            refine aLdG rfl g65 ?_
            refine aN rfl rfl (by constructor) ?_
            refine aBinV (.int .i64 (xs.getD 1 0 * 256 + xs.getD 2 0)) rfl rfl (congrArg (fun z => some (Value.int .i64 z)) (or_i64 (hb.getD 1) (hb.getD 2))) ?_
            refine aN rfl rfl (by constructor) ?_
            refine aN rfl rfl (by constructor) ?_
            refine ⟨?_, trivial⟩
            refine aSt st 0 rfl rfl rfl rfl (by first | rfl | simp [cellsOf, *]) (by first | decide | simp [*]) (by repeat constructor) fun H10 st => ?_
            refine ⟨trivial, ?_⟩
            refine pE ?_
            show AWl _ _ _ _ _
            refine aN rfl rfl (by constructor) ?_
            refine sE ?_
            refine ⟨_, out1 (r_tmp rfl (by constructor)), ?_⟩
            have hu : unk (xs.getD 0 0) = true := by
              rw [show ((0 : Int)).toNat = 0 from rfl] at h1
              rw [show ((0 : Int)).toNat = 0 from rfl] at h2
              rw [show ((0 : Int)).toNat = 0 from rfl] at h3
              rw [show ((0 : Int)).toNat = 0 from rfl] at h4
              rw [show ((0 : Int)).toNat = 0 from rfl] at h8
              unfold unk; simp_all
            refine ⟨by rw [hu], ?_⟩
            have h8 := h8
            rw [show ((0 : Int)).toNat = 0 from rfl] at h8
            unfold unkR; rw [if_pos hu]; unfold unkS; rw [if_pos h8]
            exact st.pick 0 rfl
          · show AWp _ _ _ _ _
            refine aN rfl rfl (by constructor) ?_
            refine aMovV x rfl ?_
            refine aIxB (st.slcX hx ha) rfl rfl (by omega) fun b60 o60 g60 => ?_
            refine aLdG rfl g60 ?_
            refine aN rfl rfl (by constructor) ?_
            refine aN rfl rfl (by constructor) ?_
            refine aMovV x rfl ?_
            refine aIxB (st.slcX hx ha) rfl rfl (by omega) fun b65 o65 g65 => ?_
            refine aLdG rfl g65 ?_
            refine aN rfl rfl (by constructor) ?_
            refine aBinV (.int .i64 (xs.getD 1 0 * 256 + xs.getD 2 0)) rfl rfl (congrArg (fun z => some (Value.int .i64 z)) (or_i64 (hb.getD 1) (hb.getD 2))) ?_
            refine aN rfl rfl (by constructor) ?_
            refine aN rfl rfl (by constructor) ?_
            refine ⟨?_, trivial⟩
            refine aSt st 0 rfl rfl rfl rfl (by first | rfl | simp [cellsOf, *]) (by first | decide | simp [*]) (by repeat constructor) fun H11 st => ?_
            refine ⟨trivial, ?_⟩
            refine pE ?_
            show AWl _ _ _ _ _
            refine aN rfl rfl (by constructor) ?_
            refine sE ?_
            refine ⟨_, out1 (r_tmp rfl (by constructor)), ?_⟩
            have hu : unk (xs.getD 0 0) = true := by
              rw [show ((0 : Int)).toNat = 0 from rfl] at h1
              rw [show ((0 : Int)).toNat = 0 from rfl] at h2
              rw [show ((0 : Int)).toNat = 0 from rfl] at h3
              rw [show ((0 : Int)).toNat = 0 from rfl] at h4
              rw [show ((0 : Int)).toNat = 0 from rfl] at h8
              unfold unk; simp_all
            refine ⟨by rw [hu], ?_⟩
            have h8 := h8
            rw [show ((0 : Int)).toNat = 0 from rfl] at h8
            unfold unkR; rw [if_pos hu]; unfold unkS; rw [if_neg (by rw [h8]; decide)]
            exact st.pick 0 rfl
      · refine gF rfl (by decide) ?_
        refine gF rfl (by decide) ?_
        refine gF rfl (by decide) ?_
        refine gF rfl (by decide) ?_
        refine gF rfl (by decide) ?_
        refine gT rfl ?_
        refine aN rfl rfl (by constructor) ?_
        refine aN rfl rfl (by constructor) ?_
        refine sE ?_
        show AW _ (.cond _ _ _) _ _ _
        refine cF' rfl ?_
        show AWl _ _ _ _ _
        refine aN rfl rfl (by constructor) ?_
        refine aN rfl rfl (by constructor) ?_
        refine aN rfl rfl (by constructor) ?_
        refine aMovV x rfl ?_
        refine aIxB (st.slcX hx ha) rfl rfl (by omega) fun b35 o35 g35 => ?_
        refine aLdG rfl g35 ?_
        refine aN rfl rfl (by constructor) ?_
        refine aN rfl rfl (by constructor) ?_
        refine aN rfl rfl (by constructor) ?_
        refine aN rfl rfl (by constructor) ?_
        refine aSt st 0 rfl rfl rfl rfl (by first | rfl | simp [cellsOf, *]) (by first | decide | simp [*]) (by repeat constructor) fun H12 st => ?_
        refine aN rfl rfl (by constructor) ?_
        refine aN rfl rfl (by constructor) ?_
        refine aSt st 0 rfl rfl rfl rfl (by first | rfl | simp [cellsOf, *]) (by first | decide | simp [*]) (by repeat constructor) fun H13 st => ?_
        refine aN rfl rfl (by constructor) ?_
        refine aN rfl rfl (by constructor) ?_
        refine aSt st 0 rfl rfl rfl rfl (by first | rfl | simp [cellsOf, *]) (by first | decide | simp [*]) (by repeat constructor) fun H14 st => ?_
        refine sE ?_
        show AWl _ _ _ _ _
        refine aMovV x rfl ?_
        refine aIxB (st.slcX hx ha) rfl rfl (by omega) fun b46 o46 g46 => ?_
        refine aLdG rfl g46 ?_
        refine aN rfl rfl (by constructor) ?_
        refine aN rfl rfl (by constructor) ?_
        refine sE ?_
        show AW _ (.cond _ _ _) _ _ _
        refine cC' rfl (fun h15 => ?_) (fun h15 => ?_)
        · show AWl _ _ _ _ _
          refine aN rfl rfl (by constructor) ?_
          refine aMovV x rfl ?_
          refine aIxB (st.slcX hx ha) rfl rfl (by omega) fun b52 o52 g52 => ?_
          refine aLdG rfl g52 ?_
          refine aN rfl rfl (by constructor) ?_
          refine aN rfl rfl (by constructor) ?_
          refine aN rfl rfl (by constructor) ?_
          refine aN rfl rfl (by constructor) ?_
          refine aSt st 0 rfl rfl rfl rfl (by first | rfl | simp [cellsOf, *]) (by first | decide | simp [*]) (by repeat constructor) fun H16 st => ?_
          refine sE ?_
          show AWp _ _ _ _ _
          refine aN rfl rfl (by constructor) ?_
          refine aMovV x rfl ?_
          refine aIxB (st.slcX hx ha) rfl rfl (by omega) fun b60 o60 g60 => ?_
          refine aLdG rfl g60 ?_
          refine aN rfl rfl (by constructor) ?_
          refine aN rfl rfl (by constructor) ?_
          refine aMovV x rfl ?_
          refine aIxB (st.slcX hx ha) rfl rfl (by omega) fun b65 o65 g65 => ?_
          refine aLdG rfl g65 ?_
          refine aN rfl rfl (by constructor) ?_
          refine aBinV (.int .i64 (xs.getD 1 0 * 256 + xs.getD 2 0)) rfl rfl (congrArg (fun z => some (Value.int .i64 z)) (or_i64 (hb.getD 1) (hb.getD 2))) ?_
          refine aN rfl rfl (by constructor) ?_
          refine aN rfl rfl (by constructor) ?_
          refine ⟨?_, trivial⟩
          refine aSt st 0 rfl rfl rfl rfl (by first | rfl | simp [cellsOf, *]) (by first | decide | simp [*]) (by repeat constructor) fun H17 st => ?_
          refine ⟨trivial, ?_⟩
          refine pE ?_
          show AWl _ _ _ _ _
          refine aN rfl rfl (by constructor) ?_
          refine sE ?_
          refine ⟨_, out1 (r_tmp rfl (by constructor)), ?_⟩
          have hu : unk (xs.getD 0 0) = true := by
            rw [show ((0 : Int)).toNat = 0 from rfl] at h1
            rw [show ((0 : Int)).toNat = 0 from rfl] at h2
            rw [show ((0 : Int)).toNat = 0 from rfl] at h3
            rw [show ((0 : Int)).toNat = 0 from rfl] at h15
            unfold unk; simp_all
          refine ⟨by rw [hu], ?_⟩
          have h8 := h15
          rw [show ((0 : Int)).toNat = 0 from rfl] at h8
          unfold unkR; rw [if_pos hu]; unfold unkS; rw [if_pos h8]
          exact st.pick 0 rfl
        · show AWp _ _ _ _ _
          refine aN rfl rfl (by constructor) ?_
          refine aMovV x rfl ?_
          refine aIxB (st.slcX hx ha) rfl rfl (by omega) fun b60 o60 g60 => ?_
          refine aLdG rfl g60 ?_
          refine aN rfl rfl (by constructor) ?_
          refine aN rfl rfl (by constructor) ?_
          refine aMovV x rfl ?_
          refine aIxB (st.slcX hx ha) rfl rfl (by omega) fun b65 o65 g65 => ?_
          refine aLdG rfl g65 ?_
          refine aN rfl rfl (by constructor) ?_
          refine aBinV (.int .i64 (xs.getD 1 0 * 256 + xs.getD 2 0)) rfl rfl (congrArg (fun z => some (Value.int .i64 z)) (or_i64 (hb.getD 1) (hb.getD 2))) ?_
          refine aN rfl rfl (by constructor) ?_
          refine aN rfl rfl (by constructor) ?_
          refine ⟨?_, trivial⟩
          refine aSt st 0 rfl rfl rfl rfl (by first | rfl | simp [cellsOf, *]) (by first | decide | simp [*]) (by repeat constructor) fun H18 st => ?_
          refine ⟨trivial, ?_⟩
          refine pE ?_
          show AWl _ _ _ _ _
          refine aN rfl rfl (by constructor) ?_
          refine sE ?_
          refine ⟨_, out1 (r_tmp rfl (by constructor)), ?_⟩
          have hu : unk (xs.getD 0 0) = true := by
            rw [show ((0 : Int)).toNat = 0 from rfl] at h1
            rw [show ((0 : Int)).toNat = 0 from rfl] at h2
            rw [show ((0 : Int)).toNat = 0 from rfl] at h3
            rw [show ((0 : Int)).toNat = 0 from rfl] at h15
            unfold unk; simp_all
          refine ⟨by rw [hu], ?_⟩
          have h8 := h15
          rw [show ((0 : Int)).toNat = 0 from rfl] at h8
          unfold unkR; rw [if_pos hu]; unfold unkS; rw [if_neg (by rw [h8]; decide)]
          exact st.pick 0 rfl
end Go.Proofs.Ytloigiieoehimaa.Abs
