/- PiHonest. -/
import Derived.Test.YtbbdggmnjkkjkaaFPj
import Derived.Test.YtbbdggmnjkkjkaaZTell
import Derived.Test.YtbbdggmnjkkjkaaB4
set_option linter.unusedVariables false
set_option linter.unusedSimpArgs false
set_option maxRecDepth 100000
namespace Go.Proofs.Ytbbdggmnjkkjkaa.Abs
open Go Go.RowKit
theorem cellAt {data : List Int} {i : Nat} (rest : List Value) (h : i < data.length) : (data.map (Value.int .u8) ++ rest)[0 + 0 + i * 1]? = some (.int .u8 (data.getD i 0)) := by
  rw [List.getElem?_append_left (by simp; omega)]
  simp [List.getElem?_eq_getElem h]
theorem setAt16 {data : List Int} {i : Nat} (rest : List Value) (v : Int) (h : i < data.length) : (data.map (Value.int .u8) ++ rest).set (0 + 0 + i * 1) (.int .u8 v) = (data.set i v).map (Value.int .u8) ++ rest := by
  rw [List.set_append_left _ _ (by simp; omega)]
  simp
def pk (kind : Int) : Int := IntKind.u8.wrap (1 + kind.tmod 3)
def pa (app : Int) : Int := if app = 65535 then 0 else app
def want1 (prot : Int) : Int := if prot.tmod 5 = 2 ∨ prot.tmod 5 = 3 then 0 else 4097
def want2 (prot kind : Int) : Int := if prot.tmod 5 = 3 ∨ prot.tmod 5 = 4 ∨ pk kind = 3 then 0 else 4099
theorem honest_call {H : Hp} {kind prot lba app at_ bit : Int} {data : List Int} (hn : data.length = 16) (hat : 0 ≤ at_.tmod 16 ∧ at_.tmod 16 < 16) (hbit : 0 ≤ bit.tmod 8)
    (h1 : chk (IntKind.u8.wrap (1 + kind.tmod 3)) (prot.tmod 5) lba (data.foldl c16y 0) (pa app) (if IntKind.u8.wrap (1 + kind.tmod 3) = 1 ∨ IntKind.u8.wrap (1 + kind.tmod 3) = 2 then IntKind.u32.wrap lba else 0) (data.foldl c16y 0) = 0) (h2 : chk (IntKind.u8.wrap (1 + kind.tmod 3)) (prot.tmod 5) lba (data.foldl c16y 0) (pa app) (if IntKind.u8.wrap (1 + kind.tmod 3) = 1 ∨ IntKind.u8.wrap (1 + kind.tmod 3) = 2 then IntKind.u32.wrap lba else 0) ((data.set (at_.tmod 16).toNat (bits .xor .u8 (data.getD (at_.tmod 16).toNat 0) (IntKind.u8.wrap (1 * 2 ^ min (bit.tmod 8).toNat IntKind.u8.bits)))).foldl c16y 0) = want1 prot) (h3 : chk (IntKind.u8.wrap (1 + kind.tmod 3)) (prot.tmod 5) (IntKind.u64.wrap (lba + 1)) (data.foldl c16y 0) (pa app) (if IntKind.u8.wrap (1 + kind.tmod 3) = 1 ∨ IntKind.u8.wrap (1 + kind.tmod 3) = 2 then IntKind.u32.wrap lba else 0) (data.foldl c16y 0) = want2 prot kind) :
    ACalls Try.prog 4 [.int .u8 kind, .int .u8 prot, .int .u64 lba, .agg (data.map (Value.int .u8)).toArray, .int .u16 app, .int .u8 at_, .int .u8 bit] H (fun v _ => v = .bool true) := by
  refine acallsW Try.func4 f4_ok (Nat.le_of_ble_eq_true rfl) fun hw => ?_
  have st : Stt [] H H [] := Stt.start hw
  unfold f4c
  show AWl _ _ _ _ _
  refine aBoxA st rfl (by simp [hn]) fun b10 H1 st => ?_
  refine aN rfl rfl (by constructor) ?_
  refine sE ?_
  show AWl _ _ _ _ _
  refine aC (awake_call).wf fun v21 H3 ⟨⟨hv2, hF21⟩, hw21⟩ => ?_
  subst hv2
  have st := st.call (Stt.of_frm st.wf hw21 hF21) rfl
  refine aN rfl rfl (by constructor) ?_
  refine sE ?_
  show AW _ (.cond _ _ _) _ _ _
  refine cF' rfl ?_
  show AWl _ _ _ _ _
  refine aN rfl rfl (by constructor) ?_
  refine aN rfl rfl (by constructor) ?_
  refine aN rfl rfl (by constructor) ?_
  refine aN rfl rfl (by constructor) ?_
  refine sE ?_
  show AWl _ _ _ _ _
  refine aN rfl rfl (by constructor) ?_
  refine aN rfl rfl (by constructor) ?_
  refine aN rfl rfl (by constructor) ?_
  refine sE ?_
  refine AW_cutK (fun t1 H1 => t1 4 = .int .u16 (pa app) ∧ H1 = H3) [4, 28, 29] (by decide) ?_ fun t1 H1 hk hI => ?_
  · show AWl _ _ _ _ _
    refine aN rfl rfl (by constructor) ?_
    refine aN rfl rfl (by constructor) ?_
    refine sE ?_
    show AW _ (.cond _ _ _) _ _ _
    refine cC' rfl (fun h4 => ?_) (fun h4 => ?_)
    · show AWl _ _ _ _ _
      refine aN rfl rfl (by constructor) ?_
      refine sE ?_
      exact ⟨by have hh := h4; simp [pa] at hh ⊢; simp [upd, hh], rfl⟩
    · exact ⟨by have hh := h4; simp [pa] at hh ⊢; simp [upd, hh], rfl⟩
  · obtain ⟨ht4, rfl⟩ := hI
    obtain ⟨u, rfl⟩ : ∃ u, t1 = (upd (mix [4, 28, 29] _ u) (some 4) _) := ⟨t1, by rw [← hk, upd_self ht4]⟩
    clear hk ht4
    show AWp _ _ _ _ _
    refine aLdAll st 0 rfl rfl (by simp [hn]) ?_
    refine aN rfl rfl (by constructor) ?_
    refine aN rfl rfl (by constructor) ?_
    refine aLdAll st 0 rfl rfl (by simp [hn]) ?_
    refine aN rfl rfl (by constructor) ?_
    refine ⟨?_, ?_⟩
    · refine aC (make_call hn).wf fun v35 H6 ⟨⟨hv5, hF35⟩, hw35⟩ => ?_
      subst hv5
      have st := st.call (Stt.of_frm st.wf hw35 hF35) rfl
      refine ⟨⟨(h_LdAll st 0 rfl rfl (by simp [hn])), trivial⟩, ?_⟩
      refine aBld2 rfl rfl (by simp [hn]) rfl rfl ?_
      refine ⟨?_, trivial⟩
      refine aNewP st rfl rfl (by repeat constructor) fun b17 H7 st => ?_
      refine ⟨⟨(h_LdAll st 1 rfl rfl (by simp [hn])), (h_LdAll st 1 rfl rfl (by simp [hn])), trivial⟩, ?_⟩
      refine ⟨?_, trivial⟩
      refine aStAllA st 0 rfl rfl rfl (by simp [hn]) (rfl) fun H8 st => ?_
      refine ⟨trivial, ?_⟩
      refine pE ?_
      show AWl _ _ _ _ _
      refine aN rfl rfl (by constructor) ?_
      refine aN rfl rfl (by constructor) ?_
      refine aN rfl rfl (by constructor) ?_
      refine aLdAll st 0 rfl rfl (by simp [hn]) ?_
      refine aC (check_call hn).wf fun v41 H10 ⟨⟨hv9, hF41⟩, hw41⟩ => ?_
      subst hv9
      have st := st.call (Stt.of_frm st.wf hw41 hF41) rfl
      refine aN rfl rfl (by constructor) ?_
      refine sE ?_
      show AW _ (.cond _ _ _) _ _ _
      refine cC' rfl (fun h11 => ?_) (fun h11 => ?_)
      · show AWl _ _ _ _ _
        refine aN rfl rfl (by constructor) ?_
        refine sE ?_
        refine ⟨_, out1 (r_tmp rfl (by constructor)), ?_⟩
        show _ = _
        exact absurd h11 (by first | (rw [h1]; decide) | (rw [h2]; simp))
      · show AWl _ _ _ _ _
        refine aLdAll st 0 rfl rfl (by simp [hn]) ?_
        refine aNewP st rfl rfl (by repeat constructor) fun b18 H12 st => ?_
        refine aStAllA st 0 rfl rfl rfl (by simp [hn]) (rfl) fun H13 st => ?_
        refine sE ?_
        show AWl _ _ _ _ _
        refine aN rfl rfl (by constructor) ?_
        refine aN rfl rfl (by constructor) ?_
        refine aN rfl rfl (by constructor) ?_
        refine aN rfl rfl (by constructor) ?_
        refine aN rfl rfl (by constructor) ?_
        refine aIxA rfl rfl hat ?_
        refine aLd (v := .int .u8 (data.getD (at_.tmod 16).toNat 0)) st 0 rfl rfl (cellAt _ (by omega)) (by constructor) ?_
        refine aN rfl rfl (by constructor) ?_
        refine aN rfl rfl (by constructor) ?_
        refine aN rfl (e_shl rfl rfl (hbit)) (by constructor) ?_
        refine aN rfl rfl (by constructor) ?_
        refine aN rfl rfl (by constructor) ?_
        refine aIxA rfl rfl hat ?_
        refine aStAt st 0 rfl rfl rfl rfl rfl (by simp [hn]; omega) (setAt16 _ _ (by omega)) fun H14 st => ?_
        refine sE ?_
        show AWl _ _ _ _ _
        refine aN rfl rfl (by constructor) ?_
        refine sE ?_
        refine AW_cutK (fun t1 H1 => t1 19 = .int .u16 (want1 prot) ∧ H1 = H14) [19, 57, 58, 59, 60, 61, 62] (by decide) ?_ fun t1 H1 hk hI => ?_
        · show AWl _ _ _ _ _
          refine aN rfl rfl (by constructor) ?_
          refine aN rfl rfl (by constructor) ?_
          refine aN rfl rfl (by constructor) ?_
          refine gCase 59 rfl (fun h15 => ?_) (fun h15 => ?_)
          · refine gF rfl (by decide) ?_
            refine gF rfl (by decide) ?_
            refine aN rfl rfl (by constructor) ?_
            refine sE ?_
            show AW _ (.cond _ _ _) _ _ _
            refine cT rfl ?_
            show AWl _ _ _ _ _
            refine aN rfl rfl (by constructor) ?_
            refine sE ?_
            exact ⟨by have h11' := h11; have h15' := h15; simp [want1] at *; simp [upd, *], rfl⟩
          · refine gT rfl ?_
            refine aN rfl rfl (by constructor) ?_
            refine gT rfl ?_
            refine aN rfl rfl (by constructor) ?_
            refine aN rfl rfl (by constructor) ?_
            refine sE ?_
            show AW _ (.cond _ _ _) _ _ _
            refine cC' rfl (fun h16 => ?_) (fun h16 => ?_)
            · show AWl _ _ _ _ _
              refine aN rfl rfl (by constructor) ?_
              refine sE ?_
              exact ⟨by have h15' := h15; have h16' := h16; simp [want1] at *; simp [upd, *], rfl⟩
            · exact ⟨by have h15' := h15; have h16' := h16; simp [want1] at *; simp [upd, *], rfl⟩
        · obtain ⟨ht19, rfl⟩ := hI
          obtain ⟨u, rfl⟩ : ∃ u, t1 = (upd (mix [19, 57, 58, 59, 60, 61, 62] _ u) (some 19) _) := ⟨t1, by rw [← hk, upd_self ht19]⟩
          clear hk ht19
          show AWl _ _ _ _ _
          refine aN rfl rfl (by constructor) ?_
          refine aN rfl rfl (by constructor) ?_
          refine aN rfl rfl (by constructor) ?_
          refine aLdAll st 0 rfl rfl (by simp [blk, hn]) ?_
          refine aC (check_call (data := data.set _ _) (by simp [hn])).wf fun v67 H18 ⟨⟨hv17, hF67⟩, hw67⟩ => ?_
          subst hv17
          have st := st.call (Stt.of_frm st.wf hw67 hF67) rfl
          refine aN rfl rfl (by constructor) ?_
          refine aN rfl rfl (by constructor) ?_
          refine sE ?_
          show AW _ (.cond _ _ _) _ _ _
          refine cC' rfl (fun h19 => ?_) (fun h19 => ?_)
          · show AWl _ _ _ _ _
            refine aN rfl rfl (by constructor) ?_
            refine sE ?_
            refine ⟨_, out1 (r_tmp rfl (by constructor)), ?_⟩
            show _ = _
            exact absurd h19 (by first | (rw [h1]; decide) | (rw [h2]; simp))
          · show AWl _ _ _ _ _
            refine aN rfl rfl (by constructor) ?_
            refine sE ?_
            refine AW_cutK (fun t1 H1 => t1 20 = .int .u16 (want2 prot kind) ∧ H1 = H18) [20, 70, 71, 72, 73, 74, 75, 76, 77, 78, 79] (by decide) ?_ fun t1 H1 hk hI => ?_
            · show AWl _ _ _ _ _
              refine aN rfl rfl (by constructor) ?_
              refine aN rfl rfl (by constructor) ?_
              refine aN rfl rfl (by constructor) ?_
              refine gCase 72 rfl (fun h20 => ?_) (fun h20 => ?_)
              · refine gF rfl (by decide) ?_
                refine gF rfl (by decide) ?_
                refine aN rfl rfl (by constructor) ?_
                refine aN rfl rfl (by constructor) ?_
                refine gF rfl (by decide) ?_
                refine gF rfl (by decide) ?_
                refine aN rfl rfl (by constructor) ?_
                refine sE ?_
                show AW _ (.cond _ _ _) _ _ _
                refine cT rfl ?_
                show AWl _ _ _ _ _
                refine aN rfl rfl (by constructor) ?_
                refine sE ?_
                exact ⟨by simp [want2, pk] at *; simp [upd, *], rfl⟩
              · refine gT rfl ?_
                refine aN rfl rfl (by constructor) ?_
                refine gT rfl ?_
                refine aN rfl rfl (by constructor) ?_
                refine aN rfl rfl (by constructor) ?_
                refine aN rfl rfl (by constructor) ?_
                refine gCase 76 rfl (fun h21 => ?_) (fun h21 => ?_)
                · refine gF rfl (by decide) ?_
                  refine gF rfl (by decide) ?_
                  refine aN rfl rfl (by constructor) ?_
                  refine sE ?_
                  show AW _ (.cond _ _ _) _ _ _
                  refine cT rfl ?_
                  show AWl _ _ _ _ _
                  refine aN rfl rfl (by constructor) ?_
                  refine sE ?_
                  exact ⟨by simp [want2, pk] at *; simp [upd, *], rfl⟩
                · refine gT rfl ?_
                  refine aN rfl rfl (by constructor) ?_
                  refine gT rfl ?_
                  refine aN rfl rfl (by constructor) ?_
                  refine aN rfl rfl (by constructor) ?_
                  refine sE ?_
                  show AW _ (.cond _ _ _) _ _ _
                  refine cC' rfl (fun h22 => ?_) (fun h22 => ?_)
                  · show AWl _ _ _ _ _
                    refine aN rfl rfl (by constructor) ?_
                    refine sE ?_
                    exact ⟨by simp [want2, pk] at *; simp [upd, *], rfl⟩
                  · exact ⟨by simp [want2, pk] at *; simp [upd, *], rfl⟩
            · obtain ⟨ht20, rfl⟩ := hI
              obtain ⟨u, rfl⟩ : ∃ u, t1 = (upd (mix [20, 70, 71, 72, 73, 74, 75, 76, 77, 78, 79] _ u) (some 20) _) := ⟨t1, by rw [← hk, upd_self ht20]⟩
              clear hk ht20
              show AWl _ _ _ _ _
              refine aN rfl rfl (by constructor) ?_
              refine aN rfl rfl (by constructor) ?_
              refine aN rfl rfl (by constructor) ?_
              refine aN rfl rfl (by constructor) ?_
              refine aLdAll st 1 rfl rfl (by simp [hn]) ?_
              refine aC (check_call hn).wf fun v85 H24 ⟨⟨hv23, hF85⟩, hw85⟩ => ?_
              subst hv23
              have st := st.call (Stt.of_frm st.wf hw85 hF85) rfl
              refine aN rfl rfl (by constructor) ?_
              refine aN rfl rfl (by constructor) ?_
              refine aN rfl rfl (by constructor) ?_
              refine sE ?_
              refine ⟨_, out1 (r_tmp rfl (by constructor)), ?_⟩
              show _ = _
              exact congrArg Value.bool (by rw [h3]; simp)
    · refine ⟨?_, trivial⟩
      refine aNewP st rfl rfl (by repeat constructor) fun b17 H25 st => ?_
      refine ⟨⟨(h_LdAll st 1 rfl rfl (by simp [hn])), (h_LdAll st 1 rfl rfl (by simp [hn])), trivial⟩, ?_⟩
      refine ⟨?_, trivial⟩
      refine aC (make_call hn).wf fun v35 H27 ⟨⟨hv26, hF35⟩, hw35⟩ => ?_
      subst hv26
      have st := st.call (Stt.of_frm st.wf hw35 hF35) rfl
      refine ⟨⟨(h_LdAll st 1 rfl rfl (by simp [hn])), trivial⟩, ?_⟩
      refine aBld2 rfl rfl (by simp [hn]) rfl rfl ?_
      refine ⟨?_, trivial⟩
      refine aStAllA st 0 rfl rfl rfl (by simp [hn]) (rfl) fun H28 st => ?_
      refine ⟨trivial, ?_⟩
      refine pE ?_
      show AWl _ _ _ _ _
      refine aN rfl rfl (by constructor) ?_
      refine aN rfl rfl (by constructor) ?_
      refine aN rfl rfl (by constructor) ?_
      refine aLdAll st 0 rfl rfl (by simp [hn]) ?_
      refine aC (check_call hn).wf fun v41 H30 ⟨⟨hv29, hF41⟩, hw41⟩ => ?_
      subst hv29
      have st := st.call (Stt.of_frm st.wf hw41 hF41) rfl
      refine aN rfl rfl (by constructor) ?_
      refine sE ?_
      show AW _ (.cond _ _ _) _ _ _
      refine cC' rfl (fun h31 => ?_) (fun h31 => ?_)
      · show AWl _ _ _ _ _
        refine aN rfl rfl (by constructor) ?_
        refine sE ?_
        refine ⟨_, out1 (r_tmp rfl (by constructor)), ?_⟩
        show _ = _
        exact absurd h31 (by first | (rw [h1]; decide) | (rw [h2]; simp))
      · show AWl _ _ _ _ _
        refine aLdAll st 0 rfl rfl (by simp [hn]) ?_
        refine aNewP st rfl rfl (by repeat constructor) fun b18 H32 st => ?_
        refine aStAllA st 0 rfl rfl rfl (by simp [hn]) (rfl) fun H33 st => ?_
        refine sE ?_
        show AWl _ _ _ _ _
        refine aN rfl rfl (by constructor) ?_
        refine aN rfl rfl (by constructor) ?_
        refine aN rfl rfl (by constructor) ?_
        refine aN rfl rfl (by constructor) ?_
        refine aN rfl rfl (by constructor) ?_
        refine aIxA rfl rfl hat ?_
        refine aLd (v := .int .u8 (data.getD (at_.tmod 16).toNat 0)) st 0 rfl rfl (cellAt _ (by omega)) (by constructor) ?_
        refine aN rfl rfl (by constructor) ?_
        refine aN rfl rfl (by constructor) ?_
        refine aN rfl (e_shl rfl rfl (hbit)) (by constructor) ?_
        refine aN rfl rfl (by constructor) ?_
        refine aN rfl rfl (by constructor) ?_
        refine aIxA rfl rfl hat ?_
        refine aStAt st 0 rfl rfl rfl rfl rfl (by simp [hn]; omega) (setAt16 _ _ (by omega)) fun H34 st => ?_
        refine sE ?_
        show AWl _ _ _ _ _
        refine aN rfl rfl (by constructor) ?_
        refine sE ?_
        refine AW_cutK (fun t1 H1 => t1 19 = .int .u16 (want1 prot) ∧ H1 = H34) [19, 57, 58, 59, 60, 61, 62] (by decide) ?_ fun t1 H1 hk hI => ?_
        · show AWl _ _ _ _ _
          refine aN rfl rfl (by constructor) ?_
          refine aN rfl rfl (by constructor) ?_
          refine aN rfl rfl (by constructor) ?_
          refine gCase 59 rfl (fun h35 => ?_) (fun h35 => ?_)
          · refine gF rfl (by decide) ?_
            refine gF rfl (by decide) ?_
            refine aN rfl rfl (by constructor) ?_
            refine sE ?_
            show AW _ (.cond _ _ _) _ _ _
            refine cT rfl ?_
            show AWl _ _ _ _ _
            refine aN rfl rfl (by constructor) ?_
            refine sE ?_
            exact ⟨by have h31' := h31; have h35' := h35; simp [want1] at *; simp [upd, *], rfl⟩
          · refine gT rfl ?_
            refine aN rfl rfl (by constructor) ?_
            refine gT rfl ?_
            refine aN rfl rfl (by constructor) ?_
            refine aN rfl rfl (by constructor) ?_
            refine sE ?_
            show AW _ (.cond _ _ _) _ _ _
            refine cC' rfl (fun h36 => ?_) (fun h36 => ?_)
            · show AWl _ _ _ _ _
              refine aN rfl rfl (by constructor) ?_
              refine sE ?_
              exact ⟨by have h35' := h35; have h36' := h36; simp [want1] at *; simp [upd, *], rfl⟩
            · exact ⟨by have h35' := h35; have h36' := h36; simp [want1] at *; simp [upd, *], rfl⟩
        · obtain ⟨ht19, rfl⟩ := hI
          obtain ⟨u, rfl⟩ : ∃ u, t1 = (upd (mix [19, 57, 58, 59, 60, 61, 62] _ u) (some 19) _) := ⟨t1, by rw [← hk, upd_self ht19]⟩
          clear hk ht19
          show AWl _ _ _ _ _
          refine aN rfl rfl (by constructor) ?_
          refine aN rfl rfl (by constructor) ?_
          refine aN rfl rfl (by constructor) ?_
          refine aLdAll st 0 rfl rfl (by simp [blk, hn]) ?_
          refine aC (check_call (data := data.set _ _) (by simp [hn])).wf fun v67 H38 ⟨⟨hv37, hF67⟩, hw67⟩ => ?_
          subst hv37
          have st := st.call (Stt.of_frm st.wf hw67 hF67) rfl
          refine aN rfl rfl (by constructor) ?_
          refine aN rfl rfl (by constructor) ?_
          refine sE ?_
          show AW _ (.cond _ _ _) _ _ _
          refine cC' rfl (fun h39 => ?_) (fun h39 => ?_)
          · show AWl _ _ _ _ _
            refine aN rfl rfl (by constructor) ?_
            refine sE ?_
            refine ⟨_, out1 (r_tmp rfl (by constructor)), ?_⟩
            show _ = _
            exact absurd h39 (by first | (rw [h1]; decide) | (rw [h2]; simp))
          · show AWl _ _ _ _ _
            refine aN rfl rfl (by constructor) ?_
            refine sE ?_
            refine AW_cutK (fun t1 H1 => t1 20 = .int .u16 (want2 prot kind) ∧ H1 = H38) [20, 70, 71, 72, 73, 74, 75, 76, 77, 78, 79] (by decide) ?_ fun t1 H1 hk hI => ?_
            · show AWl _ _ _ _ _
              refine aN rfl rfl (by constructor) ?_
              refine aN rfl rfl (by constructor) ?_
              refine aN rfl rfl (by constructor) ?_
              refine gCase 72 rfl (fun h40 => ?_) (fun h40 => ?_)
              · refine gF rfl (by decide) ?_
                refine gF rfl (by decide) ?_
                refine aN rfl rfl (by constructor) ?_
                refine aN rfl rfl (by constructor) ?_
                refine gF rfl (by decide) ?_
                refine gF rfl (by decide) ?_
                refine aN rfl rfl (by constructor) ?_
                refine sE ?_
                show AW _ (.cond _ _ _) _ _ _
                refine cT rfl ?_
                show AWl _ _ _ _ _
                refine aN rfl rfl (by constructor) ?_
                refine sE ?_
                exact ⟨by simp [want2, pk] at *; simp [upd, *], rfl⟩
              · refine gT rfl ?_
                refine aN rfl rfl (by constructor) ?_
                refine gT rfl ?_
                refine aN rfl rfl (by constructor) ?_
                refine aN rfl rfl (by constructor) ?_
                refine aN rfl rfl (by constructor) ?_
                refine gCase 76 rfl (fun h41 => ?_) (fun h41 => ?_)
                · refine gF rfl (by decide) ?_
                  refine gF rfl (by decide) ?_
                  refine aN rfl rfl (by constructor) ?_
                  refine sE ?_
                  show AW _ (.cond _ _ _) _ _ _
                  refine cT rfl ?_
                  show AWl _ _ _ _ _
                  refine aN rfl rfl (by constructor) ?_
                  refine sE ?_
                  exact ⟨by simp [want2, pk] at *; simp [upd, *], rfl⟩
                · refine gT rfl ?_
                  refine aN rfl rfl (by constructor) ?_
                  refine gT rfl ?_
                  refine aN rfl rfl (by constructor) ?_
                  refine aN rfl rfl (by constructor) ?_
                  refine sE ?_
                  show AW _ (.cond _ _ _) _ _ _
                  refine cC' rfl (fun h42 => ?_) (fun h42 => ?_)
                  · show AWl _ _ _ _ _
                    refine aN rfl rfl (by constructor) ?_
                    refine sE ?_
                    exact ⟨by simp [want2, pk] at *; simp [upd, *], rfl⟩
                  · exact ⟨by simp [want2, pk] at *; simp [upd, *], rfl⟩
            · obtain ⟨ht20, rfl⟩ := hI
              obtain ⟨u, rfl⟩ : ∃ u, t1 = (upd (mix [20, 70, 71, 72, 73, 74, 75, 76, 77, 78, 79] _ u) (some 20) _) := ⟨t1, by rw [← hk, upd_self ht20]⟩
              clear hk ht20
              show AWl _ _ _ _ _
              refine aN rfl rfl (by constructor) ?_
              refine aN rfl rfl (by constructor) ?_
              refine aN rfl rfl (by constructor) ?_
              refine aN rfl rfl (by constructor) ?_
              refine aLdAll st 1 rfl rfl (by simp [hn]) ?_
              refine aC (check_call hn).wf fun v85 H44 ⟨⟨hv43, hF85⟩, hw85⟩ => ?_
              subst hv43
              have st := st.call (Stt.of_frm st.wf hw85 hF85) rfl
              refine aN rfl rfl (by constructor) ?_
              refine aN rfl rfl (by constructor) ?_
              refine aN rfl rfl (by constructor) ?_
              refine sE ?_
              refine ⟨_, out1 (r_tmp rfl (by constructor)), ?_⟩
              show _ = _
              exact congrArg Value.bool (by rw [h3]; simp)
end Go.Proofs.Ytbbdggmnjkkjkaa.Abs
