/- Cuts in an abstract text: what a part ends in may be told in other words. -/
import Derived.Test.YtfjlniemgmimnaaB1
set_option linter.unusedVariables false
set_option linter.unusedSimpArgs false
namespace Go.Proofs.Ytfjlniemgmimnaa.Abs
open Go Go.RowKit
section
variable {P : Program} {t : Tm} {H : Hp}
theorem aRun_mono {i : AI} {g : Opd → Value} {K K' : Value → Hp → Prop} (hk : ∀ v H, K v H → K' v H) (h : aRun P i g H K) : aRun P i g H K' := by
  cases i
  case call f xs => exact ACalls.mono h hk
  all_goals
    obtain ⟨v, H', h1, h2⟩ := h
    exact ⟨v, H', h1, hk _ _ h2⟩
theorem aStep_mono {o : AO} {K K' : Tm → Hp → Prop} (hk : ∀ t H, K t H → K' t H) (h : aStep P o K t H) : aStep P o K' t H := by
  unfold aStep at h ⊢
  split
  · rename_i hg
    rw [hg] at h
    exact aRun_mono (fun v H => hk _ _) h
  · rename_i g want hg
    rw [hg] at h
    obtain ⟨b, h1, h2⟩ := h
    refine ⟨b, h1, ?_⟩
    split
    · rename_i hb
      rw [if_pos hb] at h2
      exact aRun_mono (fun v H => hk _ _) h2
    · rename_i hb
      rw [if_neg hb] at h2
      exact hk _ _ h2
theorem AWl_mono {K K' : Tm → Hp → Prop} (hk : ∀ t H, K t H → K' t H) : ∀ {os : List AO} {t : Tm} {H : Hp}, AWl P os K t H → AWl P os K' t H
  | [], _, _, h => hk _ _ h
  | o :: os, _, _, h => aStep_mono (fun t H h => AWl_mono hk h) h
theorem AWp_mono {K K' : Tm → Hp → Prop} (hk : ∀ t H, K t H → K' t H) : ∀ {p : AP} {t : Tm} {H : Hp}, AWp P p K t H → AWp P p K' t H
  | .done, _, _, h => hk _ _ h
  | .stop, _, _, _ => trivial
  | .quiet o rest, _, _, h => aStep_mono (fun t H h => AWp_mono hk h) h
  | .br o cs rest more, _, _, h => ⟨aStep_mono (fun t H h => ⟨h.1, AWp_mono hk h.2⟩) h.1, AWp_mono hk h.2⟩
theorem xThen_mono {n n' : Tm → Hp → Prop} {Q Q' : Exit → Tm → Hp → Prop} (hn : ∀ t H, n t H → n' t H) (hq : ∀ e t H, Q e t H → Q' e t H) : ∀ e t H, xThen n Q e t H → xThen n' Q' e t H := fun e t H h => by
  cases e <;> first
    | exact hn _ _ h
    | exact hq _ _ _ h
theorem xBlock_mono {id : Nat} {Q Q' : Exit → Tm → Hp → Prop} (hq : ∀ e t H, Q e t H → Q' e t H) : ∀ e t H, xBlock id Q e t H → xBlock id Q' e t H := fun e t H h => by
  cases e with
  | exit j =>
    simp only [xBlock] at h ⊢
    split
    · rename_i hj
      rw [if_pos hj] at h
      exact hq _ _ _ h
    · rename_i hj
      rw [if_neg hj] at h
      exact hq _ _ _ h
  | _ => exact hq _ _ _ h
theorem AW_mono : ∀ {c : AC} {Q Q' : Exit → Tm → Hp → Prop} {t : Tm} {H : Hp}, (∀ e t H, Q e t H → Q' e t H) → AW P c Q t H → AW P c Q' t H
  | .skip, _, _, _, _, hq, h => hq _ _ _ h
  | .ret, _, _, _, _, hq, h => hq _ _ _ h
  | .exit id, _, _, _, _, hq, h => hq _ _ _ h
  | .list os, _, _, _, _, hq, h => AWl_mono (hq _) h
  | .plan p, _, _, _, _, hq, h => AWp_mono (hq _) h
  | .seq x y, _, _, _, _, hq, h => AW_mono (c := x) (xThen_mono (fun t H h => AW_mono (c := y) hq h) hq) h
  | .cond c x y, _, _, _, _, hq, h => by
    obtain ⟨b, h1, h2⟩ := h
    refine ⟨b, h1, ?_⟩
    split
    · rename_i hb
      rw [if_pos hb] at h2
      exact AW_mono (c := x) hq h2
    · rename_i hb
      rw [if_neg hb] at h2
      exact AW_mono (c := y) hq h2
  | .block id x, _, _, _, _, hq, h => AW_mono (c := x) (xBlock_mono hq) h
  | .loop x, _, _, _, _, hq, h => by
    obtain ⟨I, μ, h0, hr⟩ := h
    exact ⟨I, μ, h0, fun t H hI => AW_mono (c := x) (xThen_mono (fun _ _ h => h) hq) (hr t H hI)⟩
/-- A part, told by what holds behind it. -/
theorem AW_cut {x y : AC} {Q : Exit → Tm → Hp → Prop} (I : Tm → Hp → Prop) (h1 : AW P x (xThen I Q) t H) (h2 : ∀ t H, I t H → AW P y Q t H) : AW P (.seq x y) Q t H := AW_mono (c := x) (xThen_mono h2 fun _ _ _ h => h) h1
theorem AWl_cut {os : List AO} {K : Tm → Hp → Prop} (I : Tm → Hp → Prop) (h1 : AWl P os I t H) (h2 : ∀ t H, I t H → K t H) : AWl P os K t H := AWl_mono h2 h1
theorem AWp_cut {p : AP} {K : Tm → Hp → Prop} (I : Tm → Hp → Prop) (h1 : AWp P p I t H) (h2 : ∀ t H, I t H → K t H) : AWp P p K t H := AWp_mono h2 h1
end
end Go.Proofs.Ytfjlniemgmimnaa.Abs
