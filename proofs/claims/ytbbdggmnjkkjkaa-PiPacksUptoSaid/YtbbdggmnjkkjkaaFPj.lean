/- What the functions of layer 13 do: the looks. -/
import Derived.Test.YtbbdggmnjkkjkaaFPi
import Derived.Test.YtbbdggmnjkkjkaaB2
set_option linter.unusedVariables false
namespace Go.Proofs.Ytbbdggmnjkkjkaa.Abs
open Go Go.RowKit
theorem escapes_call {H : Hp} {kind g app ref : Int} :
    ACalls Try.prog 20 [.int .u8 kind, .agg #[.int .u16 g, .int .u16 app, .int .u32 ref]] H fun v H' => v = .bool (app == 65535 && (!(kind == 3) || ref == 4294967295)) ∧ Frm H H' := by
  refine acallsW Try.func20 f20_ok (Nat.le_of_ble_eq_true rfl) fun hw => ?_
  unfold f20c
  have hm : (H.push ⟨true, 28, [.int .u16 g, .int .u16 app, .int .u32 ref]⟩).m H.nx = some ⟨true, 28, [.int .u16 g, .int .u16 app, .int .u32 ref]⟩ := by simp [Hp.push]
  show AWl _ _ _ _ _
  refine sN (v' := .pointer (some ⟨H.nx, 0, none⟩)) (H' := H.push ⟨true, 28, [.int .u16 g, .int .u16 app, .int .u32 ref]⟩) rfl rfl (by constructor) ?_
  refine sN rfl rfl (by constructor) (sE ?_)
  show AWl _ _ _ _ _
  refine sN rfl rfl (by constructor) ?_
  refine sN (v := .int .u16 app) rfl (e_load rfl (get_of hm (by simp))) (by constructor) ?_
  refine sN rfl rfl (by constructor) (sE ?_)
  show AW _ (.cond _ _ _) _ _ _
  refine AW_cond rfl (fun h1 => ?_) (fun h1 => ?_)
  · show AWl _ _ _ _ _
    refine sN rfl rfl (by constructor) (sE ?_)
    refine ⟨_, rfl, ?_, Frm.push _ _⟩
    have : (app == 65535) = false := by simpa using h1
    rw [this]
    rfl
  · have ha : (app == 65535) = true := by simpa using h1
    show AWl _ _ _ _ _
    refine sN rfl rfl (by constructor) (sN rfl rfl (by constructor) (sN rfl rfl (by constructor) ?_))
    rw [ha]
    cases h2 : (kind != 3) with
    | true =>
      refine sF rfl (by decide) (sF rfl (by decide) (sF rfl (by decide) (sN rfl rfl (by constructor) (sN rfl rfl (by constructor) (sE ?_)))))
      refine ⟨_, rfl, ?_, Frm.push _ _⟩
      have : (kind == 3) = false := by simpa using h2
      rw [this]
      rfl
    | false =>
      refine sT rfl rfl rfl (by constructor) ?_
      refine sT (v := .int .u32 ref) rfl rfl (e_load rfl (get_of hm (by simp))) (by constructor) ?_
      refine sT rfl rfl rfl (by constructor) (sN rfl rfl (by constructor) (sN rfl rfl (by constructor) (sE ?_)))
      refine ⟨_, rfl, ?_, Frm.push _ _⟩
      have : (kind == 3) = true := by simpa using h2
      rw [this]
      rfl
/-- What is wrong with a block: the code. -/
def chk (kind prot lba g app ref crc : Int) : Int :=
  if (kind == 0 || decide (kind > 3) || prot == 3 || decide (prot > 4) || (app == 65535 && (!(kind == 3) || ref == 4294967295))) = true then 0
  else if (prot != 2 && g != crc) = true then 4097
  else if (prot != 4 && kind != 3 && ref != IntKind.u32.wrap lba) = true then 4099
  else 0
def blk (data : List Int) (g app ref : Int) : List Value := data.map (Value.int .u8) ++ [.int .u16 g, .int .u16 app, .int .u32 ref]
theorem check_call {H : Hp} {kind prot lba g app ref : Int} {data : List Int} (hn : data.length = 16) :
    ACalls Try.prog 10 [.int .u8 kind, .int .u8 prot, .int .u64 lba, .agg (blk data g app ref).toArray] H fun v H' => v = .int .u16 (chk kind prot lba g app ref (data.foldl c16y 0)) ∧ Frm H H' := by
  refine acallsW Try.func10 f10_ok (Nat.le_of_ble_eq_true rfl) fun hw => ?_
  unfold f10c
  have hlen : (blk data g app ref).length = 19 := by simp [blk, hn]
  have hm : (H.push ⟨true, 33, blk data g app ref⟩).m H.nx = some ⟨true, 33, blk data g app ref⟩ := by simp [Hp.push]
  show AWl _ _ _ _ _
  refine sN (v' := .pointer (some ⟨H.nx, 0, none⟩)) (H' := H.push ⟨true, 33, blk data g app ref⟩) rfl ?_ (by constructor) ?_
  · show (if notTup _ = true ∧ _ = 19 then _ else _) = _
    rw [if_pos ⟨rfl, hlen⟩]
    rfl
  refine sN rfl rfl (by constructor) (sE ?_)
  have h16 : (blk data g app ref).drop 16 = [.int .u16 g, .int .u16 app, .int .u32 ref] := by unfold blk; rw [List.drop_left' (by simp [hn])]
  -- what the first look ends in
  let S1 : Tm → Hp → Prop := fun t H1 => Frm (H.push ⟨true, 33, blk data g app ref⟩) H1 ∧ t 0 = .int .u8 kind ∧ t 1 = .int .u8 prot ∧ t 2 = .int .u64 lba ∧ t 7 = .pointer (some ⟨H.nx, 0, none⟩) ∧ t 28 = .bool (kind == 0 || decide (kind > 3) || prot == 3 || decide (prot > 4) || (app == 65535 && (!(kind == 3) || ref == 4294967295)))
  show AWl _ _ _ _ _
  refine AWl_cut S1 ?_ fun t H1 ⟨hF, t0, t1, t2, t7, t28⟩ => ?_
  · refine sN rfl rfl (by constructor) (sN rfl rfl (by constructor) (sN rfl rfl (by constructor) ?_))
    cases h1 : (kind == 0) with
    | true =>
      refine sF rfl (by decide) (sF rfl (by decide) (sN rfl rfl (by constructor) (sN rfl rfl (by constructor) ?_)))
      refine sF rfl (by decide) (sF rfl (by decide) (sN rfl rfl (by constructor) (sN rfl rfl (by constructor) ?_)))
      refine sF rfl (by decide) (sF rfl (by decide) (sN rfl rfl (by constructor) (sN rfl rfl (by constructor) ?_)))
      refine sF rfl (by decide) (sF rfl (by decide) (sF rfl (by decide) (sF rfl (by decide) (sN rfl rfl (by constructor) (sE ?_)))))
      exact ⟨Frm.refl _, rfl, rfl, rfl, rfl, by rw [h1]; rfl⟩
    | false =>
      refine sT rfl rfl rfl (by constructor) (sT rfl rfl rfl (by constructor) (sN rfl rfl (by constructor) (sN rfl rfl (by constructor) ?_)))
      cases h2 : decide (kind > 3) with
      | true =>
        refine sF rfl (by decide) (sF rfl (by decide) (sN rfl rfl (by constructor) (sN rfl rfl (by constructor) ?_)))
        refine sF rfl (by decide) (sF rfl (by decide) (sN rfl rfl (by constructor) (sN rfl rfl (by constructor) ?_)))
        refine sF rfl (by decide) (sF rfl (by decide) (sF rfl (by decide) (sF rfl (by decide) (sN rfl rfl (by constructor) (sE ?_)))))
        exact ⟨Frm.refl _, rfl, rfl, rfl, rfl, by rw [h1, h2]; rfl⟩
      | false =>
        refine sT rfl rfl rfl (by constructor) (sT rfl rfl rfl (by constructor) (sN rfl rfl (by constructor) (sN rfl rfl (by constructor) ?_)))
        cases h3 : (prot == 3) with
        | true =>
          refine sF rfl (by decide) (sF rfl (by decide) (sN rfl rfl (by constructor) (sN rfl rfl (by constructor) ?_)))
          refine sF rfl (by decide) (sF rfl (by decide) (sF rfl (by decide) (sF rfl (by decide) (sN rfl rfl (by constructor) (sE ?_)))))
          exact ⟨Frm.refl _, rfl, rfl, rfl, rfl, by rw [h1, h2, h3]; rfl⟩
        | false =>
          refine sT rfl rfl rfl (by constructor) (sT rfl rfl rfl (by constructor) (sN rfl rfl (by constructor) (sN rfl rfl (by constructor) ?_)))
          cases h4 : decide (prot > 4) with
          | true =>
            refine sF rfl (by decide) (sF rfl (by decide) (sF rfl (by decide) (sF rfl (by decide) (sN rfl rfl (by constructor) (sE ?_)))))
            exact ⟨Frm.refl _, rfl, rfl, rfl, rfl, by rw [h1, h2, h3, h4]; rfl⟩
          | false =>
            refine sT rfl rfl rfl (by constructor) (sT rfl rfl rfl (by constructor) ?_)
            refine sT (v := .agg #[.int .u16 g, .int .u16 app, .int .u32 ref]) rfl rfl (e_loadA (xs := [.int .u16 g, .int .u16 app, .int .u32 ref]) rfl hm (by simp [hlen]) (by show ((blk data g app ref).drop 16).take 3 = _; rw [h16]; rfl)) (by constructor) ?_
            refine sCT rfl escapes_call fun v H1 ⟨hv, hF⟩ => ?_
            rw [hv]
            refine sN rfl rfl (by constructor) (sE ?_)
            exact ⟨hF, rfl, rfl, rfl, rfl, by rw [h1, h2, h3, h4]; rfl⟩
  · obtain ⟨u, rfl⟩ : ∃ u, t = upd (upd (upd (upd (upd u (some 0) _) (some 1) _) (some 2) _) (some 7) _) (some 28) _ := ⟨t, by rw [upd_self t0, upd_self t1, upd_self t2, upd_self t7, upd_self t28]⟩
    clear t0 t1 t2 t7 t28
    have hm1 : H1.m H.nx = some ⟨true, 33, blk data g app ref⟩ := by rw [hF.2 H.nx (by show H.nx < H.nx + 1; omega)]; exact hm
    have hF1 : Frm H H1 := (Frm.push _ _).trans hF
    show AW _ (.cond _ _ _) _ _ _
    refine AW_cond rfl (fun h1 => ?_) (fun h1 => ?_)
    · show AWl _ _ _ _ _
      refine sN rfl rfl (by constructor) (sE ?_)
      exact ⟨_, rfl, by unfold chk; rw [if_pos h1]; rfl, hF1⟩
    · let S2 : Tm → Hp → Prop := fun t H2 => Frm H1 H2 ∧ t 0 = .int .u8 kind ∧ t 1 = .int .u8 prot ∧ t 2 = .int .u64 lba ∧ t 7 = .pointer (some ⟨H.nx, 0, none⟩) ∧ t 39 = .bool (prot != 2 && g != data.foldl c16y 0)
      have n1 : ¬ (kind == 0 || decide (kind > 3) || prot == 3 || decide (prot > 4) || (app == 65535 && (!(kind == 3) || ref == 4294967295))) = true := by rw [h1]; simp
      show AWp _ _ _ _ _
      refine AWp_cut S2 ?_ fun t H2 ⟨hF2, t0, t1, t2, t7, t39⟩ => ?_
      · refine pN rfl rfl (by constructor) (pN rfl rfl (by constructor) (pN rfl rfl (by constructor) ?_))
        cases h2 : (prot != 2) with
        | true =>
          refine pT rfl rfl rfl (by constructor) (pT rfl rfl rfl (by constructor) ?_)
          have ld : aI (.load (.c (.pointer (some ⟨H.nx, 0 + 16 + 0, none⟩)))) (ev (fun _ => undef)) H1 = some (.int .u16 g, H1) := e_load rfl (by rw [get_of hm1 (by simp [hlen])]; show some (((blk data g app ref).drop 16).take 1) = _; rw [h16]; rfl)
          refine pT (v := .int .u16 g) (H' := H1) rfl rfl ld (by constructor) (pT rfl rfl rfl (by constructor) (pT rfl rfl rfl (by constructor) ?_))
          refine pCT rfl (c16_call (xs := data) (sl_of (k := ⟨true, 33, blk data g app ref⟩) hm1 (by simp [hlen]) (by unfold blk; rw [show 0 + 0 + 0 * 1 = 0 by rfl, List.drop_zero, List.take_left' (by simp [hn])]) (by omega)) hn (by omega)) (fun v H2 ⟨hv, hH⟩ => ?_) pS
          subst hv hH
          refine ⟨⟨⟨true, rfl, ld⟩, trivial⟩, ?_⟩
          refine pT rfl rfl rfl (by constructor) (pN rfl rfl (by constructor) ?_)
          exact ⟨Frm.refl _, rfl, rfl, rfl, rfl, by rw [h2]; rfl⟩
        | false =>
          refine pF rfl (by decide) (pF rfl (by decide) (pF rfl (by decide) (pF rfl (by decide) (pF rfl (by decide) ?_))))
          refine ⟨⟨false, rfl, ?_⟩, pS⟩
          rw [if_neg (by decide)]
          refine ⟨⟨⟨false, rfl, rfl⟩, trivial⟩, ?_⟩
          refine pF rfl (by decide) (pN rfl rfl (by constructor) ?_)
          exact ⟨Frm.refl _, rfl, rfl, rfl, rfl, by rw [h2]; rfl⟩
      · obtain ⟨u, rfl⟩ : ∃ u, t = upd (upd (upd (upd (upd u (some 0) _) (some 1) _) (some 2) _) (some 7) _) (some 39) _ := ⟨t, by rw [upd_self t0, upd_self t1, upd_self t2, upd_self t7, upd_self t39]⟩
        clear t0 t1 t2 t7 t39
        have hlt : H.nx < H1.nx := hF.1
        have hm2 : H2.m H.nx = some ⟨true, 33, blk data g app ref⟩ := by rw [hF2.2 H.nx hlt]; exact hm1
        have hFF : Frm H H2 := hF1.trans hF2
        show AW _ (.cond _ _ _) _ _ _
        refine AW_cond rfl (fun h2 => ?_) (fun h2 => ?_)
        · show AWl _ _ _ _ _
          refine sN rfl rfl (by constructor) (sE ?_)
          exact ⟨_, rfl, by unfold chk; rw [if_neg n1, if_pos h2]; rfl, hFF⟩
        · have n2 : ¬ (prot != 2 && g != data.foldl c16y 0) = true := by rw [h2]; simp
          let S3 : Tm → Hp → Prop := fun t H3 => H3 = H2 ∧ t 53 = .bool (prot != 4 && kind != 3 && ref != IntKind.u32.wrap lba)
          show AWl _ _ _ _ _
          refine AWl_cut S3 ?_ fun t H3 ⟨hH, t53⟩ => ?_
          · refine sN rfl rfl (by constructor) (sN rfl rfl (by constructor) (sN rfl rfl (by constructor) ?_))
            cases h4 : (prot != 4) with
            | false =>
              refine sF rfl (by decide) (sF rfl (by decide) (sN rfl rfl (by constructor) (sN rfl rfl (by constructor) ?_)))
              refine sF rfl (by decide) (sF rfl (by decide) (sF rfl (by decide) (sF rfl (by decide) (sF rfl (by decide) (sF rfl (by decide) (sN rfl rfl (by constructor) (sE ?_)))))))
              exact ⟨rfl, by rw [h4]; rfl⟩
            | true =>
              refine sT rfl rfl rfl (by constructor) (sT rfl rfl rfl (by constructor) (sN rfl rfl (by constructor) (sN rfl rfl (by constructor) ?_)))
              cases h5 : (kind != 3) with
              | false =>
                refine sF rfl (by decide) (sF rfl (by decide) (sF rfl (by decide) (sF rfl (by decide) (sF rfl (by decide) (sF rfl (by decide) (sN rfl rfl (by constructor) (sE ?_)))))))
                exact ⟨rfl, by rw [h4, h5]; rfl⟩
              | true =>
                refine sT rfl rfl rfl (by constructor) (sT rfl rfl rfl (by constructor) ?_)
                refine sT (v := .int .u32 ref) rfl rfl (e_load rfl (by rw [get_of hm2 (by simp [hlen])]; show some ((((blk data g app ref).drop (16 + 2))).take 1) = _; rw [← List.drop_drop, h16]; rfl)) (by constructor) ?_
                refine sT rfl rfl rfl (by constructor) (sT rfl rfl rfl (by constructor) (sT rfl rfl rfl (by constructor) (sN rfl rfl (by constructor) (sE ?_))))
                exact ⟨rfl, by rw [h4, h5]; rfl⟩
          · obtain ⟨u, rfl⟩ : ∃ u, t = upd u (some 53) _ := ⟨t, by rw [upd_self t53]⟩
            subst hH
            show AW _ (.cond _ _ _) _ _ _
            refine AW_cond rfl (fun h3 => ?_) (fun h3 => ?_)
            · show AWl _ _ _ _ _
              refine sN rfl rfl (by constructor) (sE ?_)
              exact ⟨_, rfl, by unfold chk; rw [if_neg n1, if_neg n2, if_pos h3]; rfl, hFF⟩
            · show AWl _ _ _ _ _
              refine sN rfl rfl (by constructor) (sE ?_)
              exact ⟨_, rfl, by unfold chk; rw [if_neg n1, if_neg n2, if_neg (by rw [h3]; simp)]; rfl, hFF⟩
end Go.Proofs.Ytbbdggmnjkkjkaa.Abs
