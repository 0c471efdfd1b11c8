/- Inq: the standard data. -/
import Derived.Test.YtaboppkelafoaaaI3
set_option linter.unusedVariables false
set_option linter.unusedSimpArgs false
set_option maxRecDepth 100000
namespace Go.Proofs.Ytaboppkelafoaaa.Abs
open Go Go.RowKit
theorem std_call {H : Hp} {i : Inf} (hs : i.wf) :
    ACalls Try.prog 17 [.agg #[.string (ofInts i.v), .string (ofInts i.p), .string (ofInts i.r), .string (ofInts i.s), .int .u8 i.prot]] H (fun v H' => ∃ ob, v = accV ob (stdL i).length 1 ∧ Stt [] H H' [⟨ob, true, ⟨true, 5, (stdL i).map (Value.int .u8)⟩⟩]) := by
  refine acallsW Try.func17 f17_ok (Nat.le_of_ble_eq_true rfl) fun hw => ?_
  have st : Stt [] H H [] := Stt.start hw
  unfold f17c
  show AWl _ _ _ _ _
  refine aBoxN st rfl rfl (by repeat constructor) rfl fun b1 H1 st => ?_
  refine aN rfl rfl (by constructor) ?_
  refine sE ?_
  show AWl _ _ _ _ _
  refine aLdA st 0 rfl rfl (by first | decide | simp [*]) (by repeat constructor) ?_
  refine aC (form_call hs) fun v5 H2 ⟨hv, st1⟩ => ?_
  subst hv
  replace st := st.call st1 rfl
  clear st1
  refine aN rfl rfl (by constructor) ?_
  refine sE ?_
  show AW _ (.cond _ _ _) _ _ _
  refine cC' rfl (fun h3 => ?_) (fun h3 => ?_)
  · have h3n : formI i = false := by simpa using h3
    show AWl _ _ _ _ _
    refine aN rfl rfl (by constructor) ?_
    refine sE ?_
    refine ⟨_, out1 (r_tmp rfl (by constructor)), ?_⟩
    exact ⟨none, by simp [stdL, h3n, accV], by simpa [stdL, h3n] using (st.nil 5).pick 0 rfl⟩
  · have h3n : formI i = true := by simpa using h3
    have hq := form_lens h3n
    show AWl _ _ _ _ _
    refine aLit st rfl (by repeat constructor) fun b7 H4 st => ?_
    refine aN rfl rfl (by constructor) ?_
    refine sE ?_
    show AWl _ _ _ _ _
    refine aN rfl rfl (by constructor) ?_
    refine aLd st 1 rfl rfl rfl (by constructor) ?_
    refine aN rfl rfl (by constructor) ?_
    refine sE ?_
    show AW _ (.cond _ _ _) _ _ _
    refine cC' rfl (fun h5 => ?_) (fun h5 => ?_)
    · show AWl _ _ _ _ _
      refine aN rfl rfl (by constructor) ?_
      refine aN rfl rfl (by constructor) ?_
      refine aSt st 0 rfl rfl rfl rfl (by first | rfl | simp [cellsOf, *]) (by first | decide | simp [*]) (by repeat constructor) fun H6 st => ?_
      refine sE ?_
      show AWl _ _ _ _ _
      refine aN rfl rfl (by constructor) ?_
      refine aN rfl rfl (by constructor) ?_
      refine aLd st 1 rfl rfl rfl (by constructor) ?_
      refine aC (wide_call (n := 8) hs.1 (by decide)) fun v16 H7 ⟨b16, hv, st1⟩ => ?_
      subst hv
      replace st := st.call st1 rfl
      clear st1
      refine aAppP st 1 (ob := some b7) rfl rfl rfl (by decide) (by first | rfl | (simp [beB_len, *]; done) | (simp [beB_len, *]; omega)) (st.rowAll 0 rfl (by simp)).src (by simp) (by have := wide_len (n := 8) hq.1; have := wide_len (n := 16) hq.2.1; have := wide_len (n := 4) hq.2.2.1; simp; omega) (by have := wide_len (n := 8) hq.1; have := wide_len (n := 16) hq.2.1; have := wide_len (n := 4) hq.2.2.1; simp; omega) (by have := wide_len (n := 8) hq.1; have := wide_len (n := 16) hq.2.1; have := wide_len (n := 4) hq.2.2.1; simp; omega) (by repeat constructor) fun b17 H8 st => ?_
      refine aN rfl rfl (by constructor) ?_
      refine sE ?_
      show AWl _ _ _ _ _
      refine aN rfl rfl (by constructor) ?_
      refine aN rfl rfl (by constructor) ?_
      refine aLd st 2 rfl rfl rfl (by constructor) ?_
      refine aC (wide_call (n := 16) hs.2.1 (by decide)) fun v21 H9 ⟨b21, hv, st1⟩ => ?_
      subst hv
      replace st := st.call st1 rfl
      clear st1
      refine aAppP st 2 (ob := some b17) rfl rfl rfl (by decide) (by simp; omega) (st.rowAll 0 rfl (by simp)).src (by simp) (by have := wide_len (n := 8) hq.1; have := wide_len (n := 16) hq.2.1; have := wide_len (n := 4) hq.2.2.1; simp; omega) (by have := wide_len (n := 8) hq.1; have := wide_len (n := 16) hq.2.1; have := wide_len (n := 4) hq.2.2.1; simp; omega) (by have := wide_len (n := 8) hq.1; have := wide_len (n := 16) hq.2.1; have := wide_len (n := 4) hq.2.2.1; simp; omega) (by repeat constructor) fun b22 H10 st => ?_
      refine aN rfl rfl (by constructor) ?_
      refine sE ?_
      show AWl _ _ _ _ _
      refine aN rfl rfl (by constructor) ?_
      refine aN rfl rfl (by constructor) ?_
      refine aLd st 3 rfl rfl rfl (by constructor) ?_
      refine aC (wide_call (n := 4) hs.2.2.1 (by decide)) fun v26 H11 ⟨b26, hv, st1⟩ => ?_
      subst hv
      replace st := st.call st1 rfl
      clear st1
      refine aAppP st 3 (ob := some b22) rfl rfl rfl (by decide) (by simp; omega) (st.rowAll 0 rfl (by simp)).src (by simp) (by have := wide_len (n := 8) hq.1; have := wide_len (n := 16) hq.2.1; have := wide_len (n := 4) hq.2.2.1; simp; omega) (by have := wide_len (n := 8) hq.1; have := wide_len (n := 16) hq.2.1; have := wide_len (n := 4) hq.2.2.1; simp; omega) (by have := wide_len (n := 8) hq.1; have := wide_len (n := 16) hq.2.1; have := wide_len (n := 4) hq.2.2.1; simp; omega) (by repeat constructor) fun b27 H12 st => ?_
      refine aN rfl rfl (by constructor) ?_
      refine sE ?_
      refine ⟨_, out1 (r_tmp rfl (by constructor)), ?_⟩
      have c1 : (i.prot > 0) := of_decide_eq_true h5
      have e : stdL i = [0, 0, 6, 2, 31, 1, 0, 2] ++ (wideL i.v 8 ++ (wideL i.p 16 ++ wideL i.r 4)) := by unfold stdL stdB; rw [if_pos h3n, if_pos c1]
      refine ⟨some b27, ?_, ?_⟩
      · rw [e]; exact congrArg (fun n => accV (some _) n 1) (by simp; omega)
      · rw [e]; have st2 := st.pick 3 rfl; simpa using st2
    · show AWl _ _ _ _ _
      refine aN rfl rfl (by constructor) ?_
      refine aN rfl rfl (by constructor) ?_
      refine aLd st 1 rfl rfl rfl (by constructor) ?_
      refine aC (wide_call (n := 8) hs.1 (by decide)) fun v16 H13 ⟨b16, hv, st1⟩ => ?_
      subst hv
      replace st := st.call st1 rfl
      clear st1
      refine aAppP st 1 (ob := some b7) rfl rfl rfl (by decide) (by first | rfl | (simp [beB_len, *]; done) | (simp [beB_len, *]; omega)) (st.rowAll 0 rfl (by simp)).src (by simp) (by have := wide_len (n := 8) hq.1; have := wide_len (n := 16) hq.2.1; have := wide_len (n := 4) hq.2.2.1; simp; omega) (by have := wide_len (n := 8) hq.1; have := wide_len (n := 16) hq.2.1; have := wide_len (n := 4) hq.2.2.1; simp; omega) (by have := wide_len (n := 8) hq.1; have := wide_len (n := 16) hq.2.1; have := wide_len (n := 4) hq.2.2.1; simp; omega) (by repeat constructor) fun b17 H14 st => ?_
      refine aN rfl rfl (by constructor) ?_
      refine sE ?_
      show AWl _ _ _ _ _
      refine aN rfl rfl (by constructor) ?_
      refine aN rfl rfl (by constructor) ?_
      refine aLd st 2 rfl rfl rfl (by constructor) ?_
      refine aC (wide_call (n := 16) hs.2.1 (by decide)) fun v21 H15 ⟨b21, hv, st1⟩ => ?_
      subst hv
      replace st := st.call st1 rfl
      clear st1
      refine aAppP st 2 (ob := some b17) rfl rfl rfl (by decide) (by simp; omega) (st.rowAll 0 rfl (by simp)).src (by simp) (by have := wide_len (n := 8) hq.1; have := wide_len (n := 16) hq.2.1; have := wide_len (n := 4) hq.2.2.1; simp; omega) (by have := wide_len (n := 8) hq.1; have := wide_len (n := 16) hq.2.1; have := wide_len (n := 4) hq.2.2.1; simp; omega) (by have := wide_len (n := 8) hq.1; have := wide_len (n := 16) hq.2.1; have := wide_len (n := 4) hq.2.2.1; simp; omega) (by repeat constructor) fun b22 H16 st => ?_
      refine aN rfl rfl (by constructor) ?_
      refine sE ?_
      show AWl _ _ _ _ _
      refine aN rfl rfl (by constructor) ?_
      refine aN rfl rfl (by constructor) ?_
      refine aLd st 3 rfl rfl rfl (by constructor) ?_
      refine aC (wide_call (n := 4) hs.2.2.1 (by decide)) fun v26 H17 ⟨b26, hv, st1⟩ => ?_
      subst hv
      replace st := st.call st1 rfl
      clear st1
      refine aAppP st 3 (ob := some b22) rfl rfl rfl (by decide) (by simp; omega) (st.rowAll 0 rfl (by simp)).src (by simp) (by have := wide_len (n := 8) hq.1; have := wide_len (n := 16) hq.2.1; have := wide_len (n := 4) hq.2.2.1; simp; omega) (by have := wide_len (n := 8) hq.1; have := wide_len (n := 16) hq.2.1; have := wide_len (n := 4) hq.2.2.1; simp; omega) (by have := wide_len (n := 8) hq.1; have := wide_len (n := 16) hq.2.1; have := wide_len (n := 4) hq.2.2.1; simp; omega) (by repeat constructor) fun b27 H18 st => ?_
      refine aN rfl rfl (by constructor) ?_
      refine sE ?_
      refine ⟨_, out1 (r_tmp rfl (by constructor)), ?_⟩
      have c1 : ¬ (i.prot > 0) := of_decide_eq_false h5
      have e : stdL i = [0, 0, 6, 2, 31, 0, 0, 2] ++ (wideL i.v 8 ++ (wideL i.p 16 ++ wideL i.r 4)) := by unfold stdL stdB; rw [if_pos h3n, if_neg c1]
      refine ⟨some b27, ?_, ?_⟩
      · rw [e]; exact congrArg (fun n => accV (some _) n 1) (by simp; omega)
      · rw [e]; have st2 := st.pick 3 rfl; simpa using st2
theorem rstd_call {H : Hp} {i : Inf} (hs : i.wf) :
    ACalls Try.prog 18 [.agg #[.string (ofInts i.v), .string (ofInts i.p), .string (ofInts i.r), .string (ofInts i.s), .int .i64 i.prot]] H (fun v H' => v = .string (ofInts (stdL i)) ∧ Stt [] H H' []) := by
  refine acallsW Try.func18 f18_ok (Nat.le_of_ble_eq_true rfl) fun hw => ?_
  have st : Stt [] H H [] := Stt.start hw
  unfold f18c
  show AWl _ _ _ _ _
  refine aBoxN st rfl rfl (by repeat constructor) rfl fun b1 H1 st => ?_
  refine aN rfl rfl (by constructor) ?_
  refine sE ?_
  show AWl _ _ _ _ _
  refine aLdA st 0 rfl rfl (by first | decide | simp [*]) (by repeat constructor) ?_
  refine aC (rform_call hs) fun v5 H2 ⟨hv, st1⟩ => ?_
  subst hv
  replace st := st.call st1 rfl
  clear st1
  refine aN rfl rfl (by constructor) ?_
  refine sE ?_
  show AW _ (.cond _ _ _) _ _ _
  refine cC' rfl (fun h3 => ?_) (fun h3 => ?_)
  · have h3n : formI i = false := by simpa using h3
    show AWl _ _ _ _ _
    refine aN rfl rfl (by constructor) ?_
    refine sE ?_
    refine ⟨_, out1 (r_tmp rfl (by constructor)), ?_⟩
    exact ⟨by simp [stdL, h3n]; rfl, st.drop⟩
  · have h3n : formI i = true := by simpa using h3
    have hq := form_lens h3n
    show AWl _ _ _ _ _
    refine aN rfl rfl (by constructor) ?_
    refine sE ?_
    show AWl _ _ _ _ _
    refine aN rfl rfl (by constructor) ?_
    refine aLd st 0 rfl rfl rfl (by constructor) ?_
    refine aN rfl rfl (by constructor) ?_
    refine sE ?_
    show AW _ (.cond _ _ _) _ _ _
    refine cC' rfl (fun h4 => ?_) (fun h4 => ?_)
    · show AWl _ _ _ _ _
      refine aN rfl rfl (by constructor) ?_
      refine sE ?_
      show AWp _ _ _ _ _
      refine aN rfl rfl (by constructor) ?_
      refine aN rfl rfl (by constructor) ?_
      refine aLd st 0 rfl rfl rfl (by constructor) ?_
      refine aN rfl rfl (by constructor) ?_
      refine aLd st 0 rfl rfl rfl (by constructor) ?_
      refine aN rfl rfl (by constructor) ?_
      refine aLd st 0 rfl rfl rfl (by constructor) ?_
      refine ⟨?_, ?_⟩
      · refine aLit st rfl (by repeat constructor) fun b11 H5 st => ?_
        refine ⟨⟨(h_Ld st 1 rfl rfl rfl (by constructor)), (h_Ld st 1 rfl rfl rfl (by constructor)), (h_Ld st 1 rfl rfl rfl (by constructor)), trivial⟩, ?_⟩
        have st := st.toI 0 rfl rfl (by repeat constructor)
        refine aText (st.rowAll 0 rfl (by first | rfl | (simp [beB_len, *]; done) | (simp [beB_len, *]; omega))) rfl ?_
        refine ⟨?_, trivial⟩
        refine aC (as_call (n := 8) hs.1 (by decide)) fun v15 H6 ⟨hv, st1⟩ => ?_
        subst hv
        replace st := st.call st1 rfl
        clear st1
        refine ⟨⟨(h_Text (st.rowAll 0 rfl (by first | rfl | (simp [beB_len, *]; done) | (simp [beB_len, *]; omega))) rfl), (h_Ld st 1 rfl rfl rfl (by constructor)), (h_Ld st 1 rfl rfl rfl (by constructor)), trivial⟩, ?_⟩
        refine aCatS (xs := [0, 0, 6, 2, 31, 1, 0, 2]) (ys := (wideL i.v 8)) rfl rfl (by have := wide_len (n := 8) hq.1; have := wide_len (n := 16) hq.2.1; have := wide_len (n := 4) hq.2.2.1; simp; omega) ?_
        refine ⟨?_, trivial⟩
        refine aC (as_call (n := 16) hs.2.1 (by decide)) fun v19 H7 ⟨hv, st1⟩ => ?_
        subst hv
        replace st := st.call st1 rfl
        clear st1
        refine ⟨⟨(h_Text (st.rowAll 0 rfl (by first | rfl | (simp [beB_len, *]; done) | (simp [beB_len, *]; omega))) rfl), (h_Ld st 1 rfl rfl rfl (by constructor)), (h_Ld st 1 rfl rfl rfl (by constructor)), trivial⟩, ?_⟩
        refine aCatS (xs := ([0, 0, 6, 2, 31, 1, 0, 2] ++ (wideL i.v 8))) (ys := (wideL i.p 16)) rfl rfl (by have := wide_len (n := 8) hq.1; have := wide_len (n := 16) hq.2.1; have := wide_len (n := 4) hq.2.2.1; simp; omega) ?_
        refine ⟨?_, trivial⟩
        refine aC (as_call (n := 4) hs.2.2.1 (by decide)) fun v23 H8 ⟨hv, st1⟩ => ?_
        subst hv
        replace st := st.call st1 rfl
        clear st1
        refine ⟨⟨(h_Text (st.rowAll 0 rfl (by first | rfl | (simp [beB_len, *]; done) | (simp [beB_len, *]; omega))) rfl), (h_Ld st 1 rfl rfl rfl (by constructor)), (h_Ld st 1 rfl rfl rfl (by constructor)), trivial⟩, ?_⟩
        refine aCatS (xs := (([0, 0, 6, 2, 31, 1, 0, 2] ++ (wideL i.v 8)) ++ (wideL i.p 16))) (ys := (wideL i.r 4)) rfl rfl (by have := wide_len (n := 8) hq.1; have := wide_len (n := 16) hq.2.1; have := wide_len (n := 4) hq.2.2.1; simp; omega) ?_
        refine aN rfl rfl (by constructor) ?_
        refine pE ?_
        refine ⟨_, out1 (r_tmp rfl (by constructor)), ?_⟩
        have c1 : (i.prot > 0) := of_decide_eq_true h4
        exact ⟨congrArg (fun z => Value.string (ofInts z)) (by unfold stdL stdB; rw [if_pos h3n, if_pos c1]; simp), st.drop⟩
      · refine ⟨?_, trivial⟩
        refine aC (as_call (n := 8) hs.1 (by decide)) fun v15 H9 ⟨hv, st1⟩ => ?_
        subst hv
        replace st := st.call st1 rfl
        clear st1
        refine ⟨⟨(h_Ld st 0 rfl rfl rfl (by constructor)), (h_Ld st 0 rfl rfl rfl (by constructor)), trivial⟩, ?_⟩
        refine ⟨?_, ?_⟩
        · refine aLit st rfl (by repeat constructor) fun b11 H10 st => ?_
          refine ⟨⟨(h_Ld st 1 rfl rfl rfl (by constructor)), (h_Ld st 1 rfl rfl rfl (by constructor)), (h_Ld st 1 rfl rfl rfl (by constructor)), trivial⟩, ?_⟩
          have st := st.toI 0 rfl rfl (by repeat constructor)
          refine aText (st.rowAll 0 rfl (by first | rfl | (simp [beB_len, *]; done) | (simp [beB_len, *]; omega))) rfl ?_
          refine aCatS (xs := [0, 0, 6, 2, 31, 1, 0, 2]) (ys := (wideL i.v 8)) rfl rfl (by have := wide_len (n := 8) hq.1; have := wide_len (n := 16) hq.2.1; have := wide_len (n := 4) hq.2.2.1; simp; omega) ?_
          refine ⟨?_, trivial⟩
          refine aC (as_call (n := 16) hs.2.1 (by decide)) fun v19 H11 ⟨hv, st1⟩ => ?_
          subst hv
          replace st := st.call st1 rfl
          clear st1
          refine ⟨⟨(h_Text (st.rowAll 0 rfl (by first | rfl | (simp [beB_len, *]; done) | (simp [beB_len, *]; omega))) rfl), (h_Ld st 1 rfl rfl rfl (by constructor)), (h_Ld st 1 rfl rfl rfl (by constructor)), trivial⟩, ?_⟩
          refine aCatS (xs := ([0, 0, 6, 2, 31, 1, 0, 2] ++ (wideL i.v 8))) (ys := (wideL i.p 16)) rfl rfl (by have := wide_len (n := 8) hq.1; have := wide_len (n := 16) hq.2.1; have := wide_len (n := 4) hq.2.2.1; simp; omega) ?_
          refine ⟨?_, trivial⟩
          refine aC (as_call (n := 4) hs.2.2.1 (by decide)) fun v23 H12 ⟨hv, st1⟩ => ?_
          subst hv
          replace st := st.call st1 rfl
          clear st1
          refine ⟨⟨(h_Text (st.rowAll 0 rfl (by first | rfl | (simp [beB_len, *]; done) | (simp [beB_len, *]; omega))) rfl), (h_Ld st 1 rfl rfl rfl (by constructor)), (h_Ld st 1 rfl rfl rfl (by constructor)), trivial⟩, ?_⟩
          refine aCatS (xs := (([0, 0, 6, 2, 31, 1, 0, 2] ++ (wideL i.v 8)) ++ (wideL i.p 16))) (ys := (wideL i.r 4)) rfl rfl (by have := wide_len (n := 8) hq.1; have := wide_len (n := 16) hq.2.1; have := wide_len (n := 4) hq.2.2.1; simp; omega) ?_
          refine aN rfl rfl (by constructor) ?_
          refine pE ?_
          refine ⟨_, out1 (r_tmp rfl (by constructor)), ?_⟩
          have c1 : (i.prot > 0) := of_decide_eq_true h4
          exact ⟨congrArg (fun z => Value.string (ofInts z)) (by unfold stdL stdB; rw [if_pos h3n, if_pos c1]; simp), st.drop⟩
        · refine ⟨?_, trivial⟩
          refine aC (as_call (n := 16) hs.2.1 (by decide)) fun v19 H13 ⟨hv, st1⟩ => ?_
          subst hv
          replace st := st.call st1 rfl
          clear st1
          refine ⟨⟨(h_Ld st 0 rfl rfl rfl (by constructor)), (h_Ld st 0 rfl rfl rfl (by constructor)), trivial⟩, ?_⟩
          refine ⟨?_, ?_⟩
          · refine aLit st rfl (by repeat constructor) fun b11 H14 st => ?_
            refine ⟨⟨(h_Ld st 1 rfl rfl rfl (by constructor)), (h_Ld st 1 rfl rfl rfl (by constructor)), (h_Ld st 1 rfl rfl rfl (by constructor)), trivial⟩, ?_⟩
            have st := st.toI 0 rfl rfl (by repeat constructor)
            refine aText (st.rowAll 0 rfl (by first | rfl | (simp [beB_len, *]; done) | (simp [beB_len, *]; omega))) rfl ?_
            refine aCatS (xs := [0, 0, 6, 2, 31, 1, 0, 2]) (ys := (wideL i.v 8)) rfl rfl (by have := wide_len (n := 8) hq.1; have := wide_len (n := 16) hq.2.1; have := wide_len (n := 4) hq.2.2.1; simp; omega) ?_
            refine aCatS (xs := ([0, 0, 6, 2, 31, 1, 0, 2] ++ (wideL i.v 8))) (ys := (wideL i.p 16)) rfl rfl (by have := wide_len (n := 8) hq.1; have := wide_len (n := 16) hq.2.1; have := wide_len (n := 4) hq.2.2.1; simp; omega) ?_
            refine ⟨?_, trivial⟩
            refine aC (as_call (n := 4) hs.2.2.1 (by decide)) fun v23 H15 ⟨hv, st1⟩ => ?_
            subst hv
            replace st := st.call st1 rfl
            clear st1
            refine ⟨⟨(h_Text (st.rowAll 0 rfl (by first | rfl | (simp [beB_len, *]; done) | (simp [beB_len, *]; omega))) rfl), (h_Ld st 1 rfl rfl rfl (by constructor)), (h_Ld st 1 rfl rfl rfl (by constructor)), trivial⟩, ?_⟩
            refine aCatS (xs := (([0, 0, 6, 2, 31, 1, 0, 2] ++ (wideL i.v 8)) ++ (wideL i.p 16))) (ys := (wideL i.r 4)) rfl rfl (by have := wide_len (n := 8) hq.1; have := wide_len (n := 16) hq.2.1; have := wide_len (n := 4) hq.2.2.1; simp; omega) ?_
            refine aN rfl rfl (by constructor) ?_
            refine pE ?_
            refine ⟨_, out1 (r_tmp rfl (by constructor)), ?_⟩
            have c1 : (i.prot > 0) := of_decide_eq_true h4
            exact ⟨congrArg (fun z => Value.string (ofInts z)) (by unfold stdL stdB; rw [if_pos h3n, if_pos c1]; simp), st.drop⟩
          · refine ⟨?_, trivial⟩
            refine aC (as_call (n := 4) hs.2.2.1 (by decide)) fun v23 H16 ⟨hv, st1⟩ => ?_
            subst hv
            replace st := st.call st1 rfl
            clear st1
            refine ⟨⟨(h_Ld st 0 rfl rfl rfl (by constructor)), (h_Ld st 0 rfl rfl rfl (by constructor)), trivial⟩, ?_⟩
            refine ⟨?_, trivial⟩
            refine aLit st rfl (by repeat constructor) fun b11 H17 st => ?_
            refine ⟨⟨(h_Ld st 1 rfl rfl rfl (by constructor)), (h_Ld st 1 rfl rfl rfl (by constructor)), (h_Ld st 1 rfl rfl rfl (by constructor)), trivial⟩, ?_⟩
            have st := st.toI 0 rfl rfl (by repeat constructor)
            refine aText (st.rowAll 0 rfl (by first | rfl | (simp [beB_len, *]; done) | (simp [beB_len, *]; omega))) rfl ?_
            refine aCatS (xs := [0, 0, 6, 2, 31, 1, 0, 2]) (ys := (wideL i.v 8)) rfl rfl (by have := wide_len (n := 8) hq.1; have := wide_len (n := 16) hq.2.1; have := wide_len (n := 4) hq.2.2.1; simp; omega) ?_
            refine aCatS (xs := ([0, 0, 6, 2, 31, 1, 0, 2] ++ (wideL i.v 8))) (ys := (wideL i.p 16)) rfl rfl (by have := wide_len (n := 8) hq.1; have := wide_len (n := 16) hq.2.1; have := wide_len (n := 4) hq.2.2.1; simp; omega) ?_
            refine aCatS (xs := (([0, 0, 6, 2, 31, 1, 0, 2] ++ (wideL i.v 8)) ++ (wideL i.p 16))) (ys := (wideL i.r 4)) rfl rfl (by have := wide_len (n := 8) hq.1; have := wide_len (n := 16) hq.2.1; have := wide_len (n := 4) hq.2.2.1; simp; omega) ?_
            refine aN rfl rfl (by constructor) ?_
            refine pE ?_
            refine ⟨_, out1 (r_tmp rfl (by constructor)), ?_⟩
            have c1 : (i.prot > 0) := of_decide_eq_true h4
            exact ⟨congrArg (fun z => Value.string (ofInts z)) (by unfold stdL stdB; rw [if_pos h3n, if_pos c1]; simp), st.drop⟩
    · show AWp _ _ _ _ _
      refine aN rfl rfl (by constructor) ?_
      refine aN rfl rfl (by constructor) ?_
      refine aLd st 0 rfl rfl rfl (by constructor) ?_
      refine aN rfl rfl (by constructor) ?_
      refine aLd st 0 rfl rfl rfl (by constructor) ?_
      refine aN rfl rfl (by constructor) ?_
      refine aLd st 0 rfl rfl rfl (by constructor) ?_
      refine ⟨?_, ?_⟩
      · refine aLit st rfl (by repeat constructor) fun b11 H18 st => ?_
        refine ⟨⟨(h_Ld st 1 rfl rfl rfl (by constructor)), (h_Ld st 1 rfl rfl rfl (by constructor)), (h_Ld st 1 rfl rfl rfl (by constructor)), trivial⟩, ?_⟩
        have st := st.toI 0 rfl rfl (by repeat constructor)
        refine aText (st.rowAll 0 rfl (by first | rfl | (simp [beB_len, *]; done) | (simp [beB_len, *]; omega))) rfl ?_
        refine ⟨?_, trivial⟩
        refine aC (as_call (n := 8) hs.1 (by decide)) fun v15 H19 ⟨hv, st1⟩ => ?_
        subst hv
        replace st := st.call st1 rfl
        clear st1
        refine ⟨⟨(h_Text (st.rowAll 0 rfl (by first | rfl | (simp [beB_len, *]; done) | (simp [beB_len, *]; omega))) rfl), (h_Ld st 1 rfl rfl rfl (by constructor)), (h_Ld st 1 rfl rfl rfl (by constructor)), trivial⟩, ?_⟩
        refine aCatS (xs := [0, 0, 6, 2, 31, 0, 0, 2]) (ys := (wideL i.v 8)) rfl rfl (by have := wide_len (n := 8) hq.1; have := wide_len (n := 16) hq.2.1; have := wide_len (n := 4) hq.2.2.1; simp; omega) ?_
        refine ⟨?_, trivial⟩
        refine aC (as_call (n := 16) hs.2.1 (by decide)) fun v19 H20 ⟨hv, st1⟩ => ?_
        subst hv
        replace st := st.call st1 rfl
        clear st1
        refine ⟨⟨(h_Text (st.rowAll 0 rfl (by first | rfl | (simp [beB_len, *]; done) | (simp [beB_len, *]; omega))) rfl), (h_Ld st 1 rfl rfl rfl (by constructor)), (h_Ld st 1 rfl rfl rfl (by constructor)), trivial⟩, ?_⟩
        refine aCatS (xs := ([0, 0, 6, 2, 31, 0, 0, 2] ++ (wideL i.v 8))) (ys := (wideL i.p 16)) rfl rfl (by have := wide_len (n := 8) hq.1; have := wide_len (n := 16) hq.2.1; have := wide_len (n := 4) hq.2.2.1; simp; omega) ?_
        refine ⟨?_, trivial⟩
        refine aC (as_call (n := 4) hs.2.2.1 (by decide)) fun v23 H21 ⟨hv, st1⟩ => ?_
        subst hv
        replace st := st.call st1 rfl
        clear st1
        refine ⟨⟨(h_Text (st.rowAll 0 rfl (by first | rfl | (simp [beB_len, *]; done) | (simp [beB_len, *]; omega))) rfl), (h_Ld st 1 rfl rfl rfl (by constructor)), (h_Ld st 1 rfl rfl rfl (by constructor)), trivial⟩, ?_⟩
        refine aCatS (xs := (([0, 0, 6, 2, 31, 0, 0, 2] ++ (wideL i.v 8)) ++ (wideL i.p 16))) (ys := (wideL i.r 4)) rfl rfl (by have := wide_len (n := 8) hq.1; have := wide_len (n := 16) hq.2.1; have := wide_len (n := 4) hq.2.2.1; simp; omega) ?_
        refine aN rfl rfl (by constructor) ?_
        refine pE ?_
        refine ⟨_, out1 (r_tmp rfl (by constructor)), ?_⟩
        have c1 : ¬ (i.prot > 0) := of_decide_eq_false h4
        exact ⟨congrArg (fun z => Value.string (ofInts z)) (by unfold stdL stdB; rw [if_pos h3n, if_neg c1]; simp), st.drop⟩
      · refine ⟨?_, trivial⟩
        refine aC (as_call (n := 8) hs.1 (by decide)) fun v15 H22 ⟨hv, st1⟩ => ?_
        subst hv
        replace st := st.call st1 rfl
        clear st1
        refine ⟨⟨(h_Ld st 0 rfl rfl rfl (by constructor)), (h_Ld st 0 rfl rfl rfl (by constructor)), trivial⟩, ?_⟩
        refine ⟨?_, ?_⟩
        · refine aLit st rfl (by repeat constructor) fun b11 H23 st => ?_
          refine ⟨⟨(h_Ld st 1 rfl rfl rfl (by constructor)), (h_Ld st 1 rfl rfl rfl (by constructor)), (h_Ld st 1 rfl rfl rfl (by constructor)), trivial⟩, ?_⟩
          have st := st.toI 0 rfl rfl (by repeat constructor)
          refine aText (st.rowAll 0 rfl (by first | rfl | (simp [beB_len, *]; done) | (simp [beB_len, *]; omega))) rfl ?_
          refine aCatS (xs := [0, 0, 6, 2, 31, 0, 0, 2]) (ys := (wideL i.v 8)) rfl rfl (by have := wide_len (n := 8) hq.1; have := wide_len (n := 16) hq.2.1; have := wide_len (n := 4) hq.2.2.1; simp; omega) ?_
          refine ⟨?_, trivial⟩
          refine aC (as_call (n := 16) hs.2.1 (by decide)) fun v19 H24 ⟨hv, st1⟩ => ?_
          subst hv
          replace st := st.call st1 rfl
          clear st1
          refine ⟨⟨(h_Text (st.rowAll 0 rfl (by first | rfl | (simp [beB_len, *]; done) | (simp [beB_len, *]; omega))) rfl), (h_Ld st 1 rfl rfl rfl (by constructor)), (h_Ld st 1 rfl rfl rfl (by constructor)), trivial⟩, ?_⟩
          refine aCatS (xs := ([0, 0, 6, 2, 31, 0, 0, 2] ++ (wideL i.v 8))) (ys := (wideL i.p 16)) rfl rfl (by have := wide_len (n := 8) hq.1; have := wide_len (n := 16) hq.2.1; have := wide_len (n := 4) hq.2.2.1; simp; omega) ?_
          refine ⟨?_, trivial⟩
          refine aC (as_call (n := 4) hs.2.2.1 (by decide)) fun v23 H25 ⟨hv, st1⟩ => ?_
          subst hv
          replace st := st.call st1 rfl
          clear st1
          refine ⟨⟨(h_Text (st.rowAll 0 rfl (by first | rfl | (simp [beB_len, *]; done) | (simp [beB_len, *]; omega))) rfl), (h_Ld st 1 rfl rfl rfl (by constructor)), (h_Ld st 1 rfl rfl rfl (by constructor)), trivial⟩, ?_⟩
          refine aCatS (xs := (([0, 0, 6, 2, 31, 0, 0, 2] ++ (wideL i.v 8)) ++ (wideL i.p 16))) (ys := (wideL i.r 4)) rfl rfl (by have := wide_len (n := 8) hq.1; have := wide_len (n := 16) hq.2.1; have := wide_len (n := 4) hq.2.2.1; simp; omega) ?_
          refine aN rfl rfl (by constructor) ?_
          refine pE ?_
          refine ⟨_, out1 (r_tmp rfl (by constructor)), ?_⟩
          have c1 : ¬ (i.prot > 0) := of_decide_eq_false h4
          exact ⟨congrArg (fun z => Value.string (ofInts z)) (by unfold stdL stdB; rw [if_pos h3n, if_neg c1]; simp), st.drop⟩
        · refine ⟨?_, trivial⟩
          refine aC (as_call (n := 16) hs.2.1 (by decide)) fun v19 H26 ⟨hv, st1⟩ => ?_
          subst hv
          replace st := st.call st1 rfl
          clear st1
          refine ⟨⟨(h_Ld st 0 rfl rfl rfl (by constructor)), (h_Ld st 0 rfl rfl rfl (by constructor)), trivial⟩, ?_⟩
          refine ⟨?_, ?_⟩
          · refine aLit st rfl (by repeat constructor) fun b11 H27 st => ?_
            refine ⟨⟨(h_Ld st 1 rfl rfl rfl (by constructor)), (h_Ld st 1 rfl rfl rfl (by constructor)), (h_Ld st 1 rfl rfl rfl (by constructor)), trivial⟩, ?_⟩
            have st := st.toI 0 rfl rfl (by repeat constructor)
            refine aText (st.rowAll 0 rfl (by first | rfl | (simp [beB_len, *]; done) | (simp [beB_len, *]; omega))) rfl ?_
            refine aCatS (xs := [0, 0, 6, 2, 31, 0, 0, 2]) (ys := (wideL i.v 8)) rfl rfl (by have := wide_len (n := 8) hq.1; have := wide_len (n := 16) hq.2.1; have := wide_len (n := 4) hq.2.2.1; simp; omega) ?_
            refine aCatS (xs := ([0, 0, 6, 2, 31, 0, 0, 2] ++ (wideL i.v 8))) (ys := (wideL i.p 16)) rfl rfl (by have := wide_len (n := 8) hq.1; have := wide_len (n := 16) hq.2.1; have := wide_len (n := 4) hq.2.2.1; simp; omega) ?_
            refine ⟨?_, trivial⟩
            refine aC (as_call (n := 4) hs.2.2.1 (by decide)) fun v23 H28 ⟨hv, st1⟩ => ?_
            subst hv
            replace st := st.call st1 rfl
            clear st1
            refine ⟨⟨(h_Text (st.rowAll 0 rfl (by first | rfl | (simp [beB_len, *]; done) | (simp [beB_len, *]; omega))) rfl), (h_Ld st 1 rfl rfl rfl (by constructor)), (h_Ld st 1 rfl rfl rfl (by constructor)), trivial⟩, ?_⟩
            refine aCatS (xs := (([0, 0, 6, 2, 31, 0, 0, 2] ++ (wideL i.v 8)) ++ (wideL i.p 16))) (ys := (wideL i.r 4)) rfl rfl (by have := wide_len (n := 8) hq.1; have := wide_len (n := 16) hq.2.1; have := wide_len (n := 4) hq.2.2.1; simp; omega) ?_
            refine aN rfl rfl (by constructor) ?_
            refine pE ?_
            refine ⟨_, out1 (r_tmp rfl (by constructor)), ?_⟩
            have c1 : ¬ (i.prot > 0) := of_decide_eq_false h4
            exact ⟨congrArg (fun z => Value.string (ofInts z)) (by unfold stdL stdB; rw [if_pos h3n, if_neg c1]; simp), st.drop⟩
          · refine ⟨?_, trivial⟩
            refine aC (as_call (n := 4) hs.2.2.1 (by decide)) fun v23 H29 ⟨hv, st1⟩ => ?_
            subst hv
            replace st := st.call st1 rfl
            clear st1
            refine ⟨⟨(h_Ld st 0 rfl rfl rfl (by constructor)), (h_Ld st 0 rfl rfl rfl (by constructor)), trivial⟩, ?_⟩
            refine ⟨?_, trivial⟩
            refine aLit st rfl (by repeat constructor) fun b11 H30 st => ?_
            refine ⟨⟨(h_Ld st 1 rfl rfl rfl (by constructor)), (h_Ld st 1 rfl rfl rfl (by constructor)), (h_Ld st 1 rfl rfl rfl (by constructor)), trivial⟩, ?_⟩
            have st := st.toI 0 rfl rfl (by repeat constructor)
            refine aText (st.rowAll 0 rfl (by first | rfl | (simp [beB_len, *]; done) | (simp [beB_len, *]; omega))) rfl ?_
            refine aCatS (xs := [0, 0, 6, 2, 31, 0, 0, 2]) (ys := (wideL i.v 8)) rfl rfl (by have := wide_len (n := 8) hq.1; have := wide_len (n := 16) hq.2.1; have := wide_len (n := 4) hq.2.2.1; simp; omega) ?_
            refine aCatS (xs := ([0, 0, 6, 2, 31, 0, 0, 2] ++ (wideL i.v 8))) (ys := (wideL i.p 16)) rfl rfl (by have := wide_len (n := 8) hq.1; have := wide_len (n := 16) hq.2.1; have := wide_len (n := 4) hq.2.2.1; simp; omega) ?_
            refine aCatS (xs := (([0, 0, 6, 2, 31, 0, 0, 2] ++ (wideL i.v 8)) ++ (wideL i.p 16))) (ys := (wideL i.r 4)) rfl rfl (by have := wide_len (n := 8) hq.1; have := wide_len (n := 16) hq.2.1; have := wide_len (n := 4) hq.2.2.1; simp; omega) ?_
            refine aN rfl rfl (by constructor) ?_
            refine pE ?_
            refine ⟨_, out1 (r_tmp rfl (by constructor)), ?_⟩
            have c1 : ¬ (i.prot > 0) := of_decide_eq_false h4
            exact ⟨congrArg (fun z => Value.string (ofInts z)) (by unfold stdL stdB; rw [if_pos h3n, if_neg c1]; simp), st.drop⟩
end Go.Proofs.Ytaboppkelafoaaa.Abs
