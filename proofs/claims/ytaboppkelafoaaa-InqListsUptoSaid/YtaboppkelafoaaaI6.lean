/- Inq: pages, as the document has them. -/
import Derived.Test.YtaboppkelafoaaaI5
set_option linter.unusedVariables false
set_option linter.unusedSimpArgs false
set_option maxRecDepth 100000
namespace Go.Proofs.Ytaboppkelafoaaa.Abs
open Go Go.RowKit
def pg24 : List Int := [0, 255, 0, 0, 0, 0, 1, 0, 0, 0, 0, 0, 0, 0, 0, 0, 0, 0, 1, 0, 0, 0, 0, 8]
theorem rpage_call {H : Hp} {i : Inf} {pg : Int} (hs : i.wf) (hp : 0 ≤ pg ∧ pg < 256) :
    ACalls Try.prog 13 [.agg #[.string (ofInts i.v), .string (ofInts i.p), .string (ofInts i.r), .string (ofInts i.s), .int .i64 i.prot], .int .u8 pg] H (fun v H' => v = .tuple #[.string (ofInts (pageL i pg)), .bool (pageR i pg).isSome] ∧ Stt [] H H' []) := by
  refine acallsW Try.func13 f13_ok (Nat.le_of_ble_eq_true rfl) fun hw => ?_
  have st : Stt [] H H [] := Stt.start hw
  unfold f13c
  show AWl _ _ _ _ _
  refine aBoxN st rfl rfl (by repeat constructor) rfl fun b2 H1 st => ?_
  refine aN rfl rfl (by constructor) ?_
  refine aN rfl rfl (by constructor) ?_
  refine sE ?_
  show AWl _ _ _ _ _
  refine aLdA st 0 rfl rfl (by first | decide | simp [*]) (by repeat constructor) ?_
  refine aC (rform_call hs) fun v9 H2 ⟨hv, st1⟩ => ?_
  subst hv
  replace st := st.call st1 rfl
  clear st1
  refine aN rfl rfl (by constructor) ?_
  refine sE ?_
  show AW _ (.cond _ _ _) _ _ _
  refine cC' rfl (fun h3 => ?_) (fun h3 => ?_)
  · have h3n : formI i = false := by simpa using h3
    show AWl _ _ _ _ _
    refine aN rfl rfl (by constructor) ?_
    refine aN rfl rfl (by constructor) ?_
    refine sE ?_
    refine ⟨_, out2 (r_tmp rfl (by constructor)) (r_tmp rfl (by constructor)) ⟨rfl, rfl⟩, ?_⟩
    have e : pageR i pg = none := by unfold pageR; rw [if_neg (by simp [h3n])]
    exact ⟨by unfold pageL; rw [e]; rfl, st.drop⟩
  · have h3n : formI i = true := by simpa using h3
    have hq := form_lens h3n
    show AWl _ _ _ _ _
    refine aN rfl rfl (by constructor) ?_
    refine sE ?_
    show AWl _ _ _ _ _
    refine aN rfl rfl (by constructor) ?_
    refine sE ?_
    show AWl _ _ _ _ _
    refine aN rfl rfl (by constructor) ?_
    refine aN rfl rfl (by constructor) ?_
    refine sE ?_
    show AW _ (.cond _ _ _) _ _ _
    refine cC' rfl (fun h4 => ?_) (fun h4 => ?_)
    · have hpg : pg = 0 := by simpa using h4
      subst hpg
      show AWl _ _ _ _ _
      refine aLit st rfl (by repeat constructor) fun b14 H5 st => ?_
      have st := st.toI 0 rfl rfl (by repeat constructor)
      refine aText (st.rowAll 0 rfl (by first | rfl | (simp [beB_len, *]; done) | (simp [beB_len, *]; omega))) rfl ?_
      refine aN rfl rfl (by constructor) ?_
      refine sE ?_
      show AWl _ _ _ _ _
      refine aN rfl rfl (by constructor) ?_
      refine aN rfl rfl (by constructor) ?_
      refine aLenS (xs := [0, 128, 131, 176, 178]) rfl ?_
      refine aN rfl rfl (by constructor) ?_
      refine aLit st rfl (by repeat constructor) fun b61 H6 st => ?_
      have st := st.toI 0 rfl rfl (by repeat constructor)
      refine aText (st.rowAll 0 rfl (by first | rfl | (simp [beB_len, *]; done) | (simp [beB_len, *]; omega))) rfl ?_
      refine aN rfl rfl (by constructor) ?_
      refine aCatS (xs := [0, 0, 0, IntKind.u8.wrap (([0, 128, 131, 176, 178] : List Int).length : Int)]) (ys := [0, 128, 131, 176, 178]) rfl rfl (by have := wide_len (n := 8) hq.1; first | (simp [pg24]; done) | (simp [pg24]; omega)) ?_
      refine aN rfl rfl (by constructor) ?_
      refine aN rfl rfl (by constructor) ?_
      refine sE ?_
      refine ⟨_, out2 (r_tmp rfl (by constructor)) (r_tmp rfl (by constructor)) ⟨rfl, rfl⟩, ?_⟩
      obtain ⟨e1, e2⟩ := page_eq (pg := 0) (b := [0, 128, 131, 176, 178]) h3n rfl
      refine ⟨?_, st.drop⟩
      rw [e1, e2]
      refine congrArg (fun z => Value.tuple #[.string (ofInts z), .bool true]) ?_
      decide
    · have hn0 : pg ≠ 0 := by simpa using h4
      show AWl _ _ _ _ _
      refine aN rfl rfl (by constructor) ?_
      refine aN rfl rfl (by constructor) ?_
      refine sE ?_
      show AW _ (.cond _ _ _) _ _ _
      refine cC' rfl (fun h7 => ?_) (fun h7 => ?_)
      · have hpg : pg = 128 := by simpa using h7
        subst hpg
        show AWl _ _ _ _ _
        refine aN rfl rfl (by constructor) ?_
        refine aLd st 0 rfl rfl rfl (by constructor) ?_
        refine aN rfl rfl (by constructor) ?_
        refine sE ?_
        show AWl _ _ _ _ _
        refine aN rfl rfl (by constructor) ?_
        refine aN rfl rfl (by constructor) ?_
        refine aLenS (xs := i.s) rfl ?_
        refine aN rfl rfl (by constructor) ?_
        refine aLit st rfl (by repeat constructor) fun b61 H8 st => ?_
        have st := st.toI 0 rfl rfl (by repeat constructor)
        refine aText (st.rowAll 0 rfl (by first | rfl | (simp [beB_len, *]; done) | (simp [beB_len, *]; omega))) rfl ?_
        refine aN rfl rfl (by constructor) ?_
        refine aCatS (xs := [0, 128, 0, IntKind.u8.wrap ((i.s : List Int).length : Int)]) (ys := i.s) rfl rfl (by have := wide_len (n := 8) hq.1; first | (simp [pg24]; done) | (simp [pg24]; omega)) ?_
        refine aN rfl rfl (by constructor) ?_
        refine aN rfl rfl (by constructor) ?_
        refine sE ?_
        refine ⟨_, out2 (r_tmp rfl (by constructor)) (r_tmp rfl (by constructor)) ⟨rfl, rfl⟩, ?_⟩
        obtain ⟨e1, e2⟩ := page_eq (pg := 128) (b := i.s) h3n rfl
        refine ⟨?_, st.drop⟩
        rw [e1, e2]
        refine congrArg (fun z => Value.tuple #[.string (ofInts z), .bool true]) ?_
        rw [w8, show (i.s.length : Int) % 256 = i.s.length by omega]
      · have hn128 : pg ≠ 128 := by simpa using h7
        show AWl _ _ _ _ _
        refine aN rfl rfl (by constructor) ?_
        refine aN rfl rfl (by constructor) ?_
        refine sE ?_
        show AW _ (.cond _ _ _) _ _ _
        refine cC' rfl (fun h9 => ?_) (fun h9 => ?_)
        · have hpg : pg = 131 := by simpa using h9
          subst hpg
          show AWp _ _ _ _ _
          refine aN rfl rfl (by constructor) ?_
          refine aLd st 0 rfl rfl rfl (by constructor) ?_
          refine aLenS (xs := i.s) rfl ?_
          refine aN rfl rfl (by constructor) ?_
          refine aN rfl rfl (by constructor) ?_
          refine aN rfl rfl (by constructor) ?_
          refine aLd st 0 rfl rfl rfl (by constructor) ?_
          refine aN rfl rfl (by constructor) ?_
          refine aLd st 0 rfl rfl rfl (by constructor) ?_
          refine ⟨?_, ?_⟩
          · refine aLit st rfl (by repeat constructor) fun b27 H10 st => ?_
            refine ⟨⟨(h_Ld st 1 rfl rfl rfl (by constructor)), (h_Ld st 1 rfl rfl rfl (by constructor)), (h_Ld st 1 rfl rfl rfl (by constructor)), trivial⟩, ?_⟩
            have st := st.toI 0 rfl rfl (by repeat constructor)
            refine aText (st.rowAll 0 rfl (by first | rfl | (simp [beB_len, *]; done) | (simp [beB_len, *]; omega))) rfl ?_
            refine ⟨?_, trivial⟩
            refine aC (as_call (n := 8) hs.1 (by decide)) fun v31 H11 ⟨hv, st1⟩ => ?_
            subst hv
            replace st := st.call st1 rfl
            clear st1
            refine ⟨⟨(h_Text (st.rowAll 0 rfl (by first | rfl | (simp [beB_len, *]; done) | (simp [beB_len, *]; omega))) rfl), (h_Ld st 1 rfl rfl rfl (by constructor)), (h_Ld st 1 rfl rfl rfl (by constructor)), trivial⟩, ?_⟩
            refine aCatS (xs := [2, 1, 0, IntKind.u8.wrap (IntKind.i64.wrap (8 + (i.s.length : Int)))]) (ys := (wideL i.v 8)) rfl rfl (by have := wide_len (n := 8) hq.1; first | (simp [pg24]; done) | (simp [pg24]; omega)) ?_
            refine aCatS (xs := ([2, 1, 0, IntKind.u8.wrap (IntKind.i64.wrap (8 + (i.s.length : Int)))] ++ (wideL i.v 8))) (ys := i.s) rfl rfl (by have := wide_len (n := 8) hq.1; first | (simp [pg24]; done) | (simp [pg24]; omega)) ?_
            refine aN rfl rfl (by constructor) ?_
            refine pE ?_
            show AWl _ _ _ _ _
            refine aN rfl rfl (by constructor) ?_
            refine aN rfl rfl (by constructor) ?_
            refine aLenS (xs := (([2, 1, 0, IntKind.u8.wrap (IntKind.i64.wrap (8 + (i.s.length : Int)))] ++ (wideL i.v 8)) ++ i.s)) rfl ?_
            refine aN rfl rfl (by constructor) ?_
            refine aLit st rfl (by repeat constructor) fun b61 H12 st => ?_
            have st := st.toI 0 rfl rfl (by repeat constructor)
            refine aText (st.rowAll 0 rfl (by first | rfl | (simp [beB_len, *]; done) | (simp [beB_len, *]; omega))) rfl ?_
            refine aN rfl rfl (by constructor) ?_
            refine aCatS (xs := [0, 131, 0, IntKind.u8.wrap (((([2, 1, 0, IntKind.u8.wrap (IntKind.i64.wrap (8 + (i.s.length : Int)))] ++ (wideL i.v 8)) ++ i.s) : List Int).length : Int)]) (ys := (([2, 1, 0, IntKind.u8.wrap (IntKind.i64.wrap (8 + (i.s.length : Int)))] ++ (wideL i.v 8)) ++ i.s)) rfl rfl (by have := wide_len (n := 8) hq.1; first | (simp [pg24]; done) | (simp [pg24]; omega)) ?_
            refine aN rfl rfl (by constructor) ?_
            refine aN rfl rfl (by constructor) ?_
            refine sE ?_
            refine ⟨_, out2 (r_tmp rfl (by constructor)) (r_tmp rfl (by constructor)) ⟨rfl, rfl⟩, ?_⟩
            obtain ⟨e1, e2⟩ := page_eq (pg := 131) (b := ([2, 1, 0, 8 + (i.s.length : Int)] ++ (wideL i.v 8 ++ i.s))) h3n rfl
            refine ⟨?_, st.drop⟩
            rw [e1, e2]
            refine congrArg (fun z => Value.tuple #[.string (ofInts z), .bool true]) ?_
            have l8 := wide_len (n := 8) hq.1
            simp only [w8, wi (8 + (i.s.length : Int)) (by omega), List.length_append, List.length_cons, List.length_nil, l8]
            simp; omega
          · refine ⟨?_, trivial⟩
            refine aC (as_call (n := 8) hs.1 (by decide)) fun v31 H13 ⟨hv, st1⟩ => ?_
            subst hv
            replace st := st.call st1 rfl
            clear st1
            refine ⟨⟨(h_Ld st 0 rfl rfl rfl (by constructor)), (h_Ld st 0 rfl rfl rfl (by constructor)), trivial⟩, ?_⟩
            refine ⟨?_, trivial⟩
            refine aLit st rfl (by repeat constructor) fun b27 H14 st => ?_
            refine ⟨⟨(h_Ld st 1 rfl rfl rfl (by constructor)), (h_Ld st 1 rfl rfl rfl (by constructor)), (h_Ld st 1 rfl rfl rfl (by constructor)), trivial⟩, ?_⟩
            have st := st.toI 0 rfl rfl (by repeat constructor)
            refine aText (st.rowAll 0 rfl (by first | rfl | (simp [beB_len, *]; done) | (simp [beB_len, *]; omega))) rfl ?_
            refine aCatS (xs := [2, 1, 0, IntKind.u8.wrap (IntKind.i64.wrap (8 + (i.s.length : Int)))]) (ys := (wideL i.v 8)) rfl rfl (by have := wide_len (n := 8) hq.1; first | (simp [pg24]; done) | (simp [pg24]; omega)) ?_
            refine aCatS (xs := ([2, 1, 0, IntKind.u8.wrap (IntKind.i64.wrap (8 + (i.s.length : Int)))] ++ (wideL i.v 8))) (ys := i.s) rfl rfl (by have := wide_len (n := 8) hq.1; first | (simp [pg24]; done) | (simp [pg24]; omega)) ?_
            refine aN rfl rfl (by constructor) ?_
            refine pE ?_
            show AWl _ _ _ _ _
            refine aN rfl rfl (by constructor) ?_
            refine aN rfl rfl (by constructor) ?_
            refine aLenS (xs := (([2, 1, 0, IntKind.u8.wrap (IntKind.i64.wrap (8 + (i.s.length : Int)))] ++ (wideL i.v 8)) ++ i.s)) rfl ?_
            refine aN rfl rfl (by constructor) ?_
            refine aLit st rfl (by repeat constructor) fun b61 H15 st => ?_
            have st := st.toI 0 rfl rfl (by repeat constructor)
            refine aText (st.rowAll 0 rfl (by first | rfl | (simp [beB_len, *]; done) | (simp [beB_len, *]; omega))) rfl ?_
            refine aN rfl rfl (by constructor) ?_
            refine aCatS (xs := [0, 131, 0, IntKind.u8.wrap (((([2, 1, 0, IntKind.u8.wrap (IntKind.i64.wrap (8 + (i.s.length : Int)))] ++ (wideL i.v 8)) ++ i.s) : List Int).length : Int)]) (ys := (([2, 1, 0, IntKind.u8.wrap (IntKind.i64.wrap (8 + (i.s.length : Int)))] ++ (wideL i.v 8)) ++ i.s)) rfl rfl (by have := wide_len (n := 8) hq.1; first | (simp [pg24]; done) | (simp [pg24]; omega)) ?_
            refine aN rfl rfl (by constructor) ?_
            refine aN rfl rfl (by constructor) ?_
            refine sE ?_
            refine ⟨_, out2 (r_tmp rfl (by constructor)) (r_tmp rfl (by constructor)) ⟨rfl, rfl⟩, ?_⟩
            obtain ⟨e1, e2⟩ := page_eq (pg := 131) (b := ([2, 1, 0, 8 + (i.s.length : Int)] ++ (wideL i.v 8 ++ i.s))) h3n rfl
            refine ⟨?_, st.drop⟩
            rw [e1, e2]
            refine congrArg (fun z => Value.tuple #[.string (ofInts z), .bool true]) ?_
            have l8 := wide_len (n := 8) hq.1
            simp only [w8, wi (8 + (i.s.length : Int)) (by omega), List.length_append, List.length_cons, List.length_nil, l8]
            simp; omega
        · have hn131 : pg ≠ 131 := by simpa using h9
          show AWl _ _ _ _ _
          refine aN rfl rfl (by constructor) ?_
          refine aN rfl rfl (by constructor) ?_
          refine sE ?_
          show AW _ (.cond _ _ _) _ _ _
          refine cC' rfl (fun h16 => ?_) (fun h16 => ?_)
          · have hpg : pg = 176 := by simpa using h16
            subst hpg
            show AWl _ _ _ _ _
            refine aLit st rfl (by repeat constructor) fun b38 H17 st => ?_
            refine aN rfl rfl (by constructor) ?_
            refine sE ?_
            show AWl _ _ _ _ _
            refine aN rfl rfl (by constructor) ?_
            refine aLit st rfl (by repeat constructor) fun b40 H18 st => ?_
            refine aAppP st 1 (ob := some b38) rfl rfl rfl (by decide) (by first | rfl | (simp [beB_len, *]; done) | (simp [beB_len, *]; omega)) (st.rowAll 0 rfl (by first | rfl | (simp [beB_len, *]; done) | (simp [beB_len, *]; omega))).src (by first | rfl | (simp [beB_len, *]; done) | (simp [beB_len, *]; omega)) (by first | decide | omega | (simp; omega)) (by first | decide | omega | (simp; omega)) (by first | decide | omega | (simp; omega)) (by repeat constructor) fun b41 H19 st => ?_
            refine aN rfl rfl (by constructor) ?_
            refine sE ?_
            show AWl _ _ _ _ _
            refine aN rfl rfl (by constructor) ?_
            refine aLit st rfl (by repeat constructor) fun b43 H20 st => ?_
            refine aAppP st 2 (ob := some b41) rfl rfl rfl (by decide) (by first | rfl | (simp [beB_len, *]; done) | (simp [beB_len, *]; omega)) (st.rowAll 0 rfl (by first | rfl | (simp [beB_len, *]; done) | (simp [beB_len, *]; omega))).src (by first | rfl | (simp [beB_len, *]; done) | (simp [beB_len, *]; omega)) (by first | decide | omega | (simp; omega)) (by first | decide | omega | (simp; omega)) (by first | decide | omega | (simp; omega)) (by repeat constructor) fun b44 H21 st => ?_
            refine aN rfl rfl (by constructor) ?_
            refine sE ?_
            show AW _ (.loop _) _ _ _
            refine AW_loopN (fun m t1 H1 => ∃ (j : Nat) (b : Nat), m = 36 - j ∧ (j ≤ 36) ∧ t1 7 = .slice (some ⟨b, 0, none⟩) (24 + j) 1 ∧ Stt [] H H1 [⟨some b, true, ⟨true, 5, (pg24 ++ List.replicate j (0 : Int)).map (Value.int .u8)⟩⟩]) (36 - 0) ⟨0, b44, rfl, by omega, rfl, (by have st2 := (st.sel [2] (by decide)); exact st2)⟩ [7, 45, 46, 47, 48, 49, 50] (by decide) ?_
            rintro m t1 H1 hk hI
            obtain ⟨j, b, rfl, hj, ht7, st⟩ := hI
            obtain ⟨u, rfl⟩ : ∃ u, t1 = (upd (mix [7, 45, 46, 47, 48, 49, 50] _ u) (some 7) _) := ⟨t1, by rw [← hk, upd_self ht7]⟩
            clear hk ht7
            show AWl _ _ _ _ _
            refine aN rfl rfl (by constructor) ?_
            refine aN rfl rfl (by constructor) ?_
            refine aN rfl rfl (by constructor) ?_
            refine sE ?_
            show AW _ (.cond _ _ _) _ _ _
            refine cC' rfl (fun h22 => ?_) (fun h22 => ?_)
            · have hlt : j < 36 := by have := of_decide_eq_true h22; omega
              show AWl _ _ _ _ _
              refine aN rfl rfl (by constructor) ?_
              refine aLit st rfl (by repeat constructor) fun b49 H23 st => ?_
              refine aAppP st 1 (ob := some b) rfl rfl rfl (by decide) (by first | (simp [pg24]; done) | (simp [pg24]; omega)) (st.rowAll 0 rfl (by first | rfl | (simp [beB_len, *]; done) | (simp [beB_len, *]; omega))).src (rfl) (by omega) (by omega) (by omega) (NfL.any _) fun b50 H24 st => ?_
              refine aN rfl rfl (by constructor) ?_
              refine sE ?_
              exact ⟨_, by omega, j + 1, b50, rfl, by omega, rfl, (by have st2 := (st.sel [1] (by decide)); rw [List.replicate_succ', ← List.append_assoc, List.map_append]; exact st2)⟩
            · have hge : j = 36 := by have := of_decide_eq_false h22; omega
              subst hge
              show AWl _ _ _ _ _
              refine aN rfl rfl (by constructor) ?_
              refine aText (st.rowAll 0 rfl (by first | (simp [pg24]; done) | (simp [pg24]; omega))) rfl ?_
              refine aN rfl rfl (by constructor) ?_
              refine sE ?_
              show AWl _ _ _ _ _
              refine aN rfl rfl (by constructor) ?_
              refine aN rfl rfl (by constructor) ?_
              refine aLenS (xs := (pg24 ++ List.replicate 36 (0 : Int))) rfl ?_
              refine aN rfl rfl (by constructor) ?_
              refine aLit st rfl (by repeat constructor) fun b61 H25 st => ?_
              have st := st.toI 0 rfl rfl (by repeat constructor)
              refine aText (st.rowAll 0 rfl (by first | rfl | (simp [beB_len, *]; done) | (simp [beB_len, *]; omega))) rfl ?_
              refine aN rfl rfl (by constructor) ?_
              refine aCatS (xs := [0, 176, 0, IntKind.u8.wrap (((pg24 ++ List.replicate 36 (0 : Int)) : List Int).length : Int)]) (ys := (pg24 ++ List.replicate 36 (0 : Int))) rfl rfl (by have := wide_len (n := 8) hq.1; first | (simp [pg24]; done) | (simp [pg24]; omega)) ?_
              refine aN rfl rfl (by constructor) ?_
              refine aN rfl rfl (by constructor) ?_
              refine sE ?_
              refine ⟨_, out2 (r_tmp rfl (by constructor)) (r_tmp rfl (by constructor)) ⟨rfl, rfl⟩, ?_⟩
              obtain ⟨e1, e2⟩ := page_eq (pg := 176) (b := pgB0) h3n rfl
              refine ⟨?_, st.drop⟩
              rw [e1, e2]
              refine congrArg (fun z => Value.tuple #[.string (ofInts z), .bool true]) ?_
              decide
          · have hn176 : pg ≠ 176 := by simpa using h16
            show AWl _ _ _ _ _
            refine aN rfl rfl (by constructor) ?_
            refine aN rfl rfl (by constructor) ?_
            refine sE ?_
            show AW _ (.cond _ _ _) _ _ _
            refine cC' rfl (fun h26 => ?_) (fun h26 => ?_)
            · have hpg : pg = 178 := by simpa using h26
              subst hpg
              show AWl _ _ _ _ _
              refine aLit st rfl (by repeat constructor) fun b55 H27 st => ?_
              have st := st.toI 0 rfl rfl (by repeat constructor)
              refine aText (st.rowAll 0 rfl (by first | rfl | (simp [beB_len, *]; done) | (simp [beB_len, *]; omega))) rfl ?_
              refine aN rfl rfl (by constructor) ?_
              refine sE ?_
              show AWl _ _ _ _ _
              refine aN rfl rfl (by constructor) ?_
              refine aN rfl rfl (by constructor) ?_
              refine aLenS (xs := [0, 224, 2, 0]) rfl ?_
              refine aN rfl rfl (by constructor) ?_
              refine aLit st rfl (by repeat constructor) fun b61 H28 st => ?_
              have st := st.toI 0 rfl rfl (by repeat constructor)
              refine aText (st.rowAll 0 rfl (by first | rfl | (simp [beB_len, *]; done) | (simp [beB_len, *]; omega))) rfl ?_
              refine aN rfl rfl (by constructor) ?_
              refine aCatS (xs := [0, 178, 0, IntKind.u8.wrap (([0, 224, 2, 0] : List Int).length : Int)]) (ys := [0, 224, 2, 0]) rfl rfl (by have := wide_len (n := 8) hq.1; first | (simp [pg24]; done) | (simp [pg24]; omega)) ?_
              refine aN rfl rfl (by constructor) ?_
              refine aN rfl rfl (by constructor) ?_
              refine sE ?_
              refine ⟨_, out2 (r_tmp rfl (by constructor)) (r_tmp rfl (by constructor)) ⟨rfl, rfl⟩, ?_⟩
              obtain ⟨e1, e2⟩ := page_eq (pg := 178) (b := [0, 224, 2, 0]) h3n rfl
              refine ⟨?_, st.drop⟩
              rw [e1, e2]
              refine congrArg (fun z => Value.tuple #[.string (ofInts z), .bool true]) ?_
              decide
            · have hn178 : pg ≠ 178 := by simpa using h26
              show AWl _ _ _ _ _
              refine aN rfl rfl (by constructor) ?_
              refine aN rfl rfl (by constructor) ?_
              refine sE ?_
              refine ⟨_, out2 (r_tmp rfl (by constructor)) (r_tmp rfl (by constructor)) ⟨rfl, rfl⟩, ?_⟩
              have e : pageR i pg = none := by unfold pageR pageB; rw [if_pos h3n, if_neg hn0, if_neg hn128, if_neg hn131, if_neg hn176, if_neg hn178]; rfl
              exact ⟨by unfold pageL; rw [e]; rfl, st.drop⟩
end Go.Proofs.Ytaboppkelafoaaa.Abs
