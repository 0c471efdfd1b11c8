/- Inq: pages. -/
import Derived.Test.YtaboppkelafoaaaI4
set_option linter.unusedVariables false
set_option linter.unusedSimpArgs false
set_option maxRecDepth 100000
namespace Go.Proofs.Ytaboppkelafoaaa.Abs
open Go Go.RowKit
theorem page_call {H : Hp} {i : Inf} {pg : Int} (hs : i.wf) :
    ACalls Try.prog 8 [.agg #[.string (ofInts i.v), .string (ofInts i.p), .string (ofInts i.r), .string (ofInts i.s), .int .u8 i.prot], .int .u8 pg] H (fun v H' => ∃ ob, v = .tuple #[accV ob (pageL i pg).length 1, .bool (pageR i pg).isSome] ∧ Stt [] H H' [⟨ob, true, ⟨true, 5, (pageL i pg).map (Value.int .u8)⟩⟩]) := by
  refine acallsW Try.func8 f8_ok (Nat.le_of_ble_eq_true rfl) fun hw => ?_
  have st : Stt [] H H [] := Stt.start hw
  unfold f8c
  show AWl _ _ _ _ _
  refine aBoxN st rfl rfl (by repeat constructor) rfl fun b2 H1 st => ?_
  refine aN rfl rfl (by constructor) ?_
  refine aN rfl rfl (by constructor) ?_
  refine sE ?_
  show AWl _ _ _ _ _
  refine aLdA st 0 rfl rfl (by first | decide | simp [*]) (by repeat constructor) ?_
  refine aC (form_call hs) fun v9 H2 ⟨hv, st1⟩ => ?_
  subst hv
  replace st := st.call st1 rfl
  clear st1
  refine aN rfl rfl (by constructor) ?_
  refine sE ?_
  show AW _ (.cond _ _ _) _ _ _
  refine cC' rfl (fun h3 => ?_) (fun h3 => ?_)
  · have h3n : formI i = false := by simpa using h3
    show AWl _ _ _ _ _
    refine aN rfl rfl (by constructor) ?_
    refine aN rfl rfl (by constructor) ?_
    refine sE ?_
    refine ⟨_, out2 (r_tmp rfl (by constructor)) (r_tmp rfl (by constructor)) ⟨rfl, rfl⟩, ?_⟩
    have e : pageR i pg = none := by unfold pageR; rw [if_neg (by simp [h3n])]
    exact ⟨none, by unfold pageL; rw [e]; rfl, by unfold pageL; rw [e]; exact (st.nil 5).pick 0 rfl⟩
  · have h3n : formI i = true := by simpa using h3
    have hq := form_lens h3n
    show AWl _ _ _ _ _
    refine aN rfl rfl (by constructor) ?_
    refine sE ?_
    show AWl _ _ _ _ _
    refine aN rfl rfl (by constructor) ?_
    refine sE ?_
    show AWl _ _ _ _ _
    refine aN rfl rfl (by constructor) ?_
    refine aN rfl rfl (by constructor) ?_
    refine sE ?_
    show AW _ (.cond _ _ _) _ _ _
    refine cC' rfl (fun h4 => ?_) (fun h4 => ?_)
    · have hpg : pg = 0 := by simpa using h4
      subst hpg
      show AWl _ _ _ _ _
      refine aLit st rfl (by repeat constructor) fun b14 H5 st => ?_
      refine aN rfl rfl (by constructor) ?_
      refine sE ?_
      show AWl _ _ _ _ _
      refine aN rfl rfl (by constructor) ?_
      refine aN rfl rfl (by constructor) ?_
      refine aN rfl rfl (by constructor) ?_
      refine aN rfl rfl (by constructor) ?_
      refine aLit st rfl (by repeat constructor) fun b61 H6 st => ?_
      refine aN rfl rfl (by constructor) ?_
      refine aAppP st 0 (ob := some b61) rfl rfl rfl (by decide) (by first | rfl | (simp [beB_len, *]; done) | (simp [beB_len, *]; omega)) (st.rowAll 1 rfl (by first | rfl | (simp [beB_len, *]; done) | (simp [beB_len, *]; omega))).src (by first | rfl | (simp; done) | (simp; omega)) (by have := wide_len (n := 8) hq.1; first | decide | (simp; done) | (simp; omega)) (by have := wide_len (n := 8) hq.1; first | decide | (simp; done) | (simp; omega)) (by omega) (NfL.any _) fun b63 H7 st => ?_
      refine aN rfl rfl (by constructor) ?_
      refine aN rfl rfl (by constructor) ?_
      refine sE ?_
      refine ⟨_, out2 (r_tmp rfl (by constructor)) (r_tmp rfl (by constructor)) ⟨rfl, rfl⟩, ?_⟩
      obtain ⟨e1, e2⟩ := page_eq (pg := 0) (b := [0, 128, 131, 176, 178]) h3n rfl
      refine ⟨some b63, ?_, ?_⟩
      · rw [e1, e2]; exact congrArg (fun n => Value.tuple #[accV (some _) n 1, .bool true]) rfl
      · rw [e1]
        have st2 := st.pick 0 rfl
        exact st2
    · have hn0 : pg ≠ 0 := by simpa using h4
      show AWl _ _ _ _ _
      refine aN rfl rfl (by constructor) ?_
      refine aN rfl rfl (by constructor) ?_
      refine sE ?_
      show AW _ (.cond _ _ _) _ _ _
      refine cC' rfl (fun h8 => ?_) (fun h8 => ?_)
      · have hpg : pg = 128 := by simpa using h8
        subst hpg
        show AWl _ _ _ _ _
        refine aN rfl rfl (by constructor) ?_
        refine aLd st 0 rfl rfl rfl (by constructor) ?_
        refine aBytesS (xs := i.s) st hs.2.2.2.1.1 rfl (by omega) fun b19 H9 st => ?_
        refine aN rfl rfl (by constructor) ?_
        refine sE ?_
        show AWl _ _ _ _ _
        refine aN rfl rfl (by constructor) ?_
        refine aN rfl rfl (by constructor) ?_
        refine aN rfl rfl (by constructor) ?_
        refine aN rfl rfl (by constructor) ?_
        refine aLit st rfl (by repeat constructor) fun b61 H10 st => ?_
        refine aN rfl rfl (by constructor) ?_
        refine aAppP st 0 (ob := some b61) rfl rfl rfl (by decide) (by first | rfl | (simp [beB_len, *]; done) | (simp [beB_len, *]; omega)) (st.rowAll 1 rfl (by simp)).src (by first | rfl | (simp; done) | (simp; omega)) (by have := wide_len (n := 8) hq.1; first | decide | (simp; done) | (simp; omega)) (by have := wide_len (n := 8) hq.1; first | decide | (simp; done) | (simp; omega)) (by omega) (NfL.any _) fun b63 H11 st => ?_
        refine aN rfl rfl (by constructor) ?_
        refine aN rfl rfl (by constructor) ?_
        refine sE ?_
        refine ⟨_, out2 (r_tmp rfl (by constructor)) (r_tmp rfl (by constructor)) ⟨rfl, rfl⟩, ?_⟩
        obtain ⟨e1, e2⟩ := page_eq (pg := 128) (b := i.s) h3n rfl
        refine ⟨some b63, ?_, ?_⟩
        · rw [e1, e2]; exact congrArg (fun n => Value.tuple #[accV (some _) n 1, .bool true]) (by simp; omega)
        · rw [e1]
          have st2 := st.pick 0 rfl
          rw [w8, show (i.s.length : Int) % 256 = i.s.length by omega] at st2
          simpa using st2
      · have hn128 : pg ≠ 128 := by simpa using h8
        show AWl _ _ _ _ _
        refine aN rfl rfl (by constructor) ?_
        refine aN rfl rfl (by constructor) ?_
        refine sE ?_
        show AW _ (.cond _ _ _) _ _ _
        refine cC' rfl (fun h12 => ?_) (fun h12 => ?_)
        · have hpg : pg = 131 := by simpa using h12
          subst hpg
          show AWp _ _ _ _ _
          refine aN rfl rfl (by constructor) ?_
          refine aLd st 0 rfl rfl rfl (by constructor) ?_
          refine aN rfl rfl (by constructor) ?_
          refine aLd st 0 rfl rfl rfl (by constructor) ?_
          refine ⟨?_, trivial⟩
          refine aC (wide_call (n := 8) hs.1 (by decide)) fun v24 H13 ⟨b24, hv, st1⟩ => ?_
          subst hv
          replace st := st.call st1 rfl
          clear st1
          refine ⟨⟨(h_Ld st 1 rfl rfl rfl (by constructor)), trivial⟩, ?_⟩
          refine ⟨?_, trivial⟩
          refine aAppP st 0 (ob := some b24) rfl rfl rfl (by decide) (by simp) (src_str (xs := i.s) hs.2.2.2.1.1) (by simp) (by have := wide_len (n := 8) hq.1; omega) (by have := wide_len (n := 8) hq.1; omega) (by have := wide_len (n := 8) hq.1; omega) (NfL.any _) fun b27 H14 st => ?_
          refine ⟨⟨(h_Ld st 1 rfl rfl rfl (by constructor)), trivial⟩, ?_⟩
          refine aN rfl rfl (by constructor) ?_
          refine pE ?_
          show AWl _ _ _ _ _
          refine aN rfl rfl (by constructor) ?_
          refine aN rfl rfl (by constructor) ?_
          refine aN rfl rfl (by constructor) ?_
          refine aLit st rfl (by repeat constructor) fun b31 H15 st => ?_
          refine aN rfl rfl (by constructor) ?_
          refine aAppP st 0 (ob := some b31) rfl rfl rfl (by decide) (by first | rfl | (simp [beB_len, *]; done) | (simp [beB_len, *]; omega)) (st.rowAll 1 rfl (by simp)).src (by simp) (by have := wide_len (n := 8) hq.1; omega) (by have := wide_len (n := 8) hq.1; omega) (by omega) (NfL.any _) fun b33 H16 st => ?_
          refine aN rfl rfl (by constructor) ?_
          refine sE ?_
          show AWl _ _ _ _ _
          refine aN rfl rfl (by constructor) ?_
          refine aN rfl rfl (by constructor) ?_
          refine aN rfl rfl (by constructor) ?_
          refine aN rfl rfl (by constructor) ?_
          refine aLit st rfl (by repeat constructor) fun b61 H17 st => ?_
          refine aN rfl rfl (by constructor) ?_
          refine aAppP st 0 (ob := some b61) rfl rfl rfl (by decide) (by first | rfl | (simp [beB_len, *]; done) | (simp [beB_len, *]; omega)) (st.rowAll 1 rfl (by simp; omega)).src (by first | rfl | (simp; done) | (simp; omega)) (by have := wide_len (n := 8) hq.1; first | decide | (simp; done) | (simp; omega)) (by have := wide_len (n := 8) hq.1; first | decide | (simp; done) | (simp; omega)) (by omega) (NfL.any _) fun b63 H18 st => ?_
          refine aN rfl rfl (by constructor) ?_
          refine aN rfl rfl (by constructor) ?_
          refine sE ?_
          refine ⟨_, out2 (r_tmp rfl (by constructor)) (r_tmp rfl (by constructor)) ⟨rfl, rfl⟩, ?_⟩
          obtain ⟨e1, e2⟩ := page_eq (pg := 131) (b := ([2, 1, 0, 8 + (i.s.length : Int)] ++ (wideL i.v 8 ++ i.s))) h3n rfl
          refine ⟨some b63, ?_, ?_⟩
          · rw [e1, e2]; exact congrArg (fun n => Value.tuple #[accV (some _) n 1, .bool true]) (by simp; omega)
          · rw [e1]
            have st2 := st.pick 0 rfl
            have l8 := wide_len (n := 8) hq.1
            rw [show IntKind.u8.wrap ((((wideL i.v 8).length + i.s.length : Nat)) : Int) = 8 + (i.s.length : Int) by rw [w8]; omega, show IntKind.u8.wrap (((4 + ((wideL i.v 8).length + i.s.length) : Nat)) : Int) = ((([2, 1, 0, 8 + (i.s.length : Int)] ++ (wideL i.v 8 ++ i.s)).length : Nat) : Int) by rw [w8]; simp; omega] at st2
            simpa using st2
        · have hn131 : pg ≠ 131 := by simpa using h12
          show AWl _ _ _ _ _
          refine aN rfl rfl (by constructor) ?_
          refine aN rfl rfl (by constructor) ?_
          refine sE ?_
          show AW _ (.cond _ _ _) _ _ _
          refine cC' rfl (fun h19 => ?_) (fun h19 => ?_)
          · have hpg : pg = 176 := by simpa using h19
            subst hpg
            show AWl _ _ _ _ _
            refine aNewS st rfl rfl (by repeat constructor) fun b36 H20 st => ?_
            refine aN rfl rfl (by constructor) ?_
            refine sE ?_
            show AWl _ _ _ _ _
            refine aN rfl rfl (by constructor) ?_
            refine aN rfl rfl (by constructor) ?_
            refine aSt st 0 rfl rfl rfl rfl (by first | rfl | simp [cellsOf, *]) (by first | decide | simp [*]) (by repeat constructor) fun H21 st => ?_
            refine sE ?_
            show AWl _ _ _ _ _
            refine aN rfl rfl (by constructor) ?_
            have st := st.toI 0 rfl rfl (by repeat constructor)
            refine aC (put_call (st.rowAll 0 rfl rfl) (by simp only [byteL_cons, byteL_nil, and_true]; (repeat' apply And.intro); all_goals first | decide | omega) (by simp) (by simp) (by decide)) fun v41 H22 ⟨b41, hv, st1⟩ => ?_
            subst hv
            replace st := st.call st1 rfl
            clear st1
            refine aN rfl rfl (by constructor) ?_
            refine aN rfl rfl (by constructor) ?_
            refine aN rfl rfl (by constructor) ?_
            refine aN rfl rfl (by constructor) ?_
            refine sE ?_
            show AWl _ _ _ _ _
            refine aN rfl rfl (by constructor) ?_
            have st := st.toI 0 rfl rfl (by repeat constructor)
            refine aC (put_call (st.rowAll 0 rfl rfl) (by simp only [byteL_cons, byteL_nil, and_true]; (repeat' apply And.intro); all_goals first | decide | omega) (by simp) (by simp) (by decide)) fun v46 H23 ⟨b46, hv, st1⟩ => ?_
            subst hv
            replace st := st.call st1 rfl
            clear st1
            refine aN rfl rfl (by constructor) ?_
            refine aN rfl rfl (by constructor) ?_
            refine aN rfl rfl (by constructor) ?_
            refine aN rfl rfl (by constructor) ?_
            refine sE ?_
            show AWl _ _ _ _ _
            refine aN rfl rfl (by constructor) ?_
            have st := st.toI 0 rfl rfl (by repeat constructor)
            refine aC (put_call (st.rowAll 0 rfl rfl) (by simp only [byteL_cons, byteL_nil, and_true]; (repeat' apply And.intro); all_goals first | decide | omega) (by simp) (by simp) (by decide)) fun v51 H24 ⟨b51, hv, st1⟩ => ?_
            subst hv
            replace st := st.call st1 rfl
            clear st1
            refine aN rfl rfl (by constructor) ?_
            refine aN rfl rfl (by constructor) ?_
            refine aN rfl rfl (by constructor) ?_
            refine aN rfl rfl (by constructor) ?_
            refine sE ?_
            show AWl _ _ _ _ _
            refine aN rfl rfl (by constructor) ?_
            refine aN rfl rfl (by constructor) ?_
            refine aN rfl rfl (by constructor) ?_
            refine aN rfl rfl (by constructor) ?_
            refine aLit st rfl (by repeat constructor) fun b61 H25 st => ?_
            refine aN rfl rfl (by constructor) ?_
            refine aAppP st 0 (ob := some b61) rfl rfl rfl (by decide) (by first | rfl | (simp [beB_len, *]; done) | (simp [beB_len, *]; omega)) (st.rowAll 1 rfl (rfl)).src (by first | rfl | (simp; done) | (simp; omega)) (by have := wide_len (n := 8) hq.1; first | decide | (simp; done) | (simp; omega)) (by have := wide_len (n := 8) hq.1; first | decide | (simp; done) | (simp; omega)) (by omega) (NfL.any _) fun b63 H26 st => ?_
            refine aN rfl rfl (by constructor) ?_
            refine aN rfl rfl (by constructor) ?_
            refine sE ?_
            refine ⟨_, out2 (r_tmp rfl (by constructor)) (r_tmp rfl (by constructor)) ⟨rfl, rfl⟩, ?_⟩
            obtain ⟨e1, e2⟩ := page_eq (pg := 176) (b := pgB0) h3n rfl
            refine ⟨some b63, ?_, ?_⟩
            · rw [e1, e2]; exact congrArg (fun n => Value.tuple #[accV (some _) n 1, .bool true]) rfl
            · rw [e1]
              have st2 := st.pick 0 rfl
              exact st2
          · have hn176 : pg ≠ 176 := by simpa using h19
            show AWl _ _ _ _ _
            refine aN rfl rfl (by constructor) ?_
            refine aN rfl rfl (by constructor) ?_
            refine sE ?_
            show AW _ (.cond _ _ _) _ _ _
            refine cC' rfl (fun h27 => ?_) (fun h27 => ?_)
            · have hpg : pg = 178 := by simpa using h27
              subst hpg
              show AWl _ _ _ _ _
              refine aLit st rfl (by repeat constructor) fun b56 H28 st => ?_
              refine aN rfl rfl (by constructor) ?_
              refine sE ?_
              show AWl _ _ _ _ _
              refine aN rfl rfl (by constructor) ?_
              refine aN rfl rfl (by constructor) ?_
              refine aN rfl rfl (by constructor) ?_
              refine aN rfl rfl (by constructor) ?_
              refine aLit st rfl (by repeat constructor) fun b61 H29 st => ?_
              refine aN rfl rfl (by constructor) ?_
              refine aAppP st 0 (ob := some b61) rfl rfl rfl (by decide) (by first | rfl | (simp [beB_len, *]; done) | (simp [beB_len, *]; omega)) (st.rowAll 1 rfl (by first | rfl | (simp [beB_len, *]; done) | (simp [beB_len, *]; omega))).src (by first | rfl | (simp; done) | (simp; omega)) (by have := wide_len (n := 8) hq.1; first | decide | (simp; done) | (simp; omega)) (by have := wide_len (n := 8) hq.1; first | decide | (simp; done) | (simp; omega)) (by omega) (NfL.any _) fun b63 H30 st => ?_
              refine aN rfl rfl (by constructor) ?_
              refine aN rfl rfl (by constructor) ?_
              refine sE ?_
              refine ⟨_, out2 (r_tmp rfl (by constructor)) (r_tmp rfl (by constructor)) ⟨rfl, rfl⟩, ?_⟩
              obtain ⟨e1, e2⟩ := page_eq (pg := 178) (b := [0, 224, 2, 0]) h3n rfl
              refine ⟨some b63, ?_, ?_⟩
              · rw [e1, e2]; exact congrArg (fun n => Value.tuple #[accV (some _) n 1, .bool true]) rfl
              · rw [e1]
                have st2 := st.pick 0 rfl
                exact st2
            · have hn178 : pg ≠ 178 := by simpa using h27
              show AWl _ _ _ _ _
              refine aN rfl rfl (by constructor) ?_
              refine aN rfl rfl (by constructor) ?_
              refine sE ?_
              refine ⟨_, out2 (r_tmp rfl (by constructor)) (r_tmp rfl (by constructor)) ⟨rfl, rfl⟩, ?_⟩
              have e : pageR i pg = none := by unfold pageR pageB; rw [if_pos h3n, if_neg hn0, if_neg hn128, if_neg hn131, if_neg hn176, if_neg hn178]; rfl
              exact ⟨none, by unfold pageL; rw [e]; rfl, by unfold pageL; rw [e]; exact (st.nil 5).pick 0 rfl⟩
end Go.Proofs.Ytaboppkelafoaaa.Abs
