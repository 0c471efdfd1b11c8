/- Commands: which bits are looked at. -/
import Derived.Test.YtjmjkdelkaflmaaGreatDoorXI
import Derived.Test.YtjmjkdelkaflmaaGreatDoorXL
set_option linter.unusedVariables false
set_option linter.unusedSimpArgs false
set_option maxRecDepth 100000
namespace Go.Proofs.YtjmjkdelkaflmaaGreatDoor.Abs
open Go Go.RowKit
def useL (op : Int) : List Int := if op = 0 then [0, 0, 0, 0, 0, 0] else if op = 3 then [3, 1, 0, 0, 255, 0] else if op = 8 then [8, 31, 255, 255, 255, 0] else if op = 10 then [10, 31, 255, 255, 255, 0] else if op = 18 then [18, 1, 255, 255, 255, 0] else if op = 21 then [21, 17, 0, 0, 255, 0] else if op = 26 then [26, 8, 255, 0, 255, 0] else if op = 37 then [37, 0, 0, 0, 0, 0, 0, 0, 0, 0] else if op = 40 then [40, 248, 255, 255, 255, 255, 0, 255, 255, 0] else if op = 42 then [42, 248, 255, 255, 255, 255, 0, 255, 255, 0] else if op = 46 then [46, 240, 255, 255, 255, 255, 0, 255, 255, 0] else if op = 47 then [47, 242, 255, 255, 255, 255, 0, 255, 255, 0] else if op = 53 then [53, 0, 255, 255, 255, 255, 0, 255, 255, 0] else if op = 65 then [65, 232, 255, 255, 255, 255, 0, 255, 255, 0] else if op = 66 then [66, 0, 0, 0, 0, 0, 0, 255, 255, 0] else if op = 85 then [85, 17, 0, 0, 0, 0, 0, 255, 255, 0] else if op = 90 then [90, 8, 255, 0, 0, 0, 0, 255, 255, 0] else if op = 94 then [94, 31, 0, 0, 0, 0, 0, 255, 255, 0] else if op = 95 then [95, 31, 15, 0, 0, 255, 255, 255, 255, 0] else if op = 131 then [131, 31, 0, 0, 0, 0, 0, 0, 0, 0, 255, 255, 255, 255, 0, 0] else if op = 136 then [136, 248, 255, 255, 255, 255, 255, 255, 255, 255, 255, 255, 255, 255, 0, 0] else if op = 138 then [138, 248, 255, 255, 255, 255, 255, 255, 255, 255, 255, 255, 255, 255, 0, 0] else if op = 137 then [137, 248, 255, 255, 255, 255, 255, 255, 255, 255, 0, 0, 0, 255, 0, 0] else if op = 145 then [145, 0, 255, 255, 255, 255, 255, 255, 255, 255, 255, 255, 255, 255, 0, 0] else if op = 147 then [147, 232, 255, 255, 255, 255, 255, 255, 255, 255, 255, 255, 255, 255, 0, 0] else if op = 158 then [158, 31, 0, 0, 0, 0, 0, 0, 0, 0, 255, 255, 255, 255, 0, 0] else if op = 160 then [160, 0, 3, 0, 0, 0, 255, 255, 255, 255, 0, 0] else []
def serveB (op sv : Int) : Bool := if op = 94 then decide (sv ≤ 3) else if op = 95 then decide (sv ≤ 6) else if op = 131 then sv == 0 else if op = 158 then sv == 16 else !(useL op).isEmpty
def codes : List Int := [0, 131, 136, 138]
theorem usage_call {H : Hp} {op sv : Int} (hop : op ∈ codes) :
  ACalls Tryz.prog 47 [.int .u8 op, .int .u8 sv] H (fun v H' => ∃ ob, v = .tuple #[accV ob (useL op).length 1, .bool (serveB op sv)] ∧ Stt [] H H' [⟨ob, true, ⟨true, 5, (useL op).map (Value.int .u8)⟩⟩] ∧ (useL op = [] → ob = none)) := by
 refine acallsW Tryz.func47 f47_ok (Nat.le_of_ble_eq_true rfl) fun hw => ?_
 have st : Stt [] H H [] := Stt.start hw
 unfold f47c
 refine zw ?_
 iterate 2 refine zm ?_
 refine zw ?_
 refine aLit st rfl (by repeat constructor) fun b7 H1 st => ?_
 have st := st.toI 0 rfl rfl (by repeat constructor)
 refine zm ?_
 refine zw ?_
 refine zm ?_
 refine zw ?_
 iterate 2 refine zm ?_
 show AW _ (.cond _ _ _) _ _ _
 refine cC' rfl (fun h2 => ?_) (fun h2 => ?_)
 ·have h2q := h2; try simp only [zq] at h2q
  subst h2q
  refine zw ?_
  refine zm ?_
  refine aLit st rfl (by repeat constructor) fun b12 H3 st => ?_
  iterate 2 refine zm ?_
  refine sE ?_
  refine ⟨_, out2 zr zr ⟨rfl, rfl⟩, ?_⟩
  refine ⟨some b12, ?_, ?_, fun h => absurd h (by decide)⟩
  ·first | rfl | (simp [serveB, useL]; done)
  ·have st2 := st.pick 0 rfl; exact st2
 ·have h2q := h2; try simp only [zq] at h2q
  refine zw ?_
  iterate 2 refine zm ?_
  show AW _ (.cond _ _ _) _ _ _
  refine cC' rfl (fun h4 => ?_) (fun h4 => ?_)
  ·have h4q := h4; try simp only [zq] at h4q
   subst h4q; exact absurd hop (by decide)
  ·have h4q := h4; try simp only [zq] at h4q
   refine zw ?_
   iterate 2 refine zm ?_
   show AW _ (.cond _ _ _) _ _ _
   refine cC' rfl (fun h5 => ?_) (fun h5 => ?_)
   ·have h5q := h5; try simp only [zq] at h5q
    subst h5q; exact absurd hop (by decide)
   ·have h5q := h5; try simp only [zq] at h5q
    refine zw ?_
    iterate 2 refine zm ?_
    show AW _ (.cond _ _ _) _ _ _
    refine cC' rfl (fun h6 => ?_) (fun h6 => ?_)
    ·have h6q := h6; try simp only [zq] at h6q
     subst h6q; exact absurd hop (by decide)
    ·have h6q := h6; try simp only [zq] at h6q
     refine zw ?_
     iterate 2 refine zm ?_
     show AW _ (.cond _ _ _) _ _ _
     refine cC' rfl (fun h7 => ?_) (fun h7 => ?_)
     ·have h7q := h7; try simp only [zq] at h7q
      subst h7q; exact absurd hop (by decide)
     ·have h7q := h7; try simp only [zq] at h7q
      refine zw ?_
      iterate 2 refine zm ?_
      show AW _ (.cond _ _ _) _ _ _
      refine cC' rfl (fun h8 => ?_) (fun h8 => ?_)
      ·have h8q := h8; try simp only [zq] at h8q
       subst h8q; exact absurd hop (by decide)
      ·have h8q := h8; try simp only [zq] at h8q
       refine zw ?_
       iterate 2 refine zm ?_
       show AW _ (.cond _ _ _) _ _ _
       refine cC' rfl (fun h9 => ?_) (fun h9 => ?_)
       ·have h9q := h9; try simp only [zq] at h9q
        subst h9q; exact absurd hop (by decide)
       ·have h9q := h9; try simp only [zq] at h9q
        refine zw ?_
        iterate 2 refine zm ?_
        show AW _ (.cond _ _ _) _ _ _
        refine cC' rfl (fun h10 => ?_) (fun h10 => ?_)
        ·have h10q := h10; try simp only [zq] at h10q
         subst h10q; exact absurd hop (by decide)
        ·have h10q := h10; try simp only [zq] at h10q
         refine zw ?_
         iterate 2 refine zm ?_
         show AW _ (.cond _ _ _) _ _ _
         refine cC' rfl (fun h11 => ?_) (fun h11 => ?_)
         ·have h11q := h11; try simp only [zq] at h11q
          subst h11q; exact absurd hop (by decide)
         ·have h11q := h11; try simp only [zq] at h11q
          refine zw ?_
          iterate 2 refine zm ?_
          show AW _ (.cond _ _ _) _ _ _
          refine cC' rfl (fun h12 => ?_) (fun h12 => ?_)
          ·have h12q := h12; try simp only [zq] at h12q
           subst h12q; exact absurd hop (by decide)
          ·have h12q := h12; try simp only [zq] at h12q
           refine zw ?_
           iterate 2 refine zm ?_
           show AW _ (.cond _ _ _) _ _ _
           refine cC' rfl (fun h13 => ?_) (fun h13 => ?_)
           ·have h13q := h13; try simp only [zq] at h13q
            subst h13q; exact absurd hop (by decide)
           ·have h13q := h13; try simp only [zq] at h13q
            refine zw ?_
            iterate 2 refine zm ?_
            show AW _ (.cond _ _ _) _ _ _
            refine cC' rfl (fun h14 => ?_) (fun h14 => ?_)
            ·have h14q := h14; try simp only [zq] at h14q
             subst h14q; exact absurd hop (by decide)
            ·have h14q := h14; try simp only [zq] at h14q
             refine zw ?_
             iterate 2 refine zm ?_
             show AW _ (.cond _ _ _) _ _ _
             refine cC' rfl (fun h15 => ?_) (fun h15 => ?_)
             ·have h15q := h15; try simp only [zq] at h15q
              subst h15q; exact absurd hop (by decide)
             ·have h15q := h15; try simp only [zq] at h15q
              refine zw ?_
              iterate 2 refine zm ?_
              show AW _ (.cond _ _ _) _ _ _
              refine cC' rfl (fun h16 => ?_) (fun h16 => ?_)
              ·have h16q := h16; try simp only [zq] at h16q
               subst h16q; exact absurd hop (by decide)
              ·have h16q := h16; try simp only [zq] at h16q
               refine zw ?_
               iterate 2 refine zm ?_
               show AW _ (.cond _ _ _) _ _ _
               refine cC' rfl (fun h17 => ?_) (fun h17 => ?_)
               ·have h17q := h17; try simp only [zq] at h17q
                subst h17q; exact absurd hop (by decide)
               ·have h17q := h17; try simp only [zq] at h17q
                refine zw ?_
                iterate 2 refine zm ?_
                show AW _ (.cond _ _ _) _ _ _
                refine cC' rfl (fun h18 => ?_) (fun h18 => ?_)
                ·have h18q := h18; try simp only [zq] at h18q
                 subst h18q; exact absurd hop (by decide)
                ·have h18q := h18; try simp only [zq] at h18q
                 refine zw ?_
                 iterate 2 refine zm ?_
                 show AW _ (.cond _ _ _) _ _ _
                 refine cC' rfl (fun h19 => ?_) (fun h19 => ?_)
                 ·have h19q := h19; try simp only [zq] at h19q
                  subst h19q; exact absurd hop (by decide)
                 ·have h19q := h19; try simp only [zq] at h19q
                  refine zw ?_
                  iterate 2 refine zm ?_
                  show AW _ (.cond _ _ _) _ _ _
                  refine cC' rfl (fun h20 => ?_) (fun h20 => ?_)
                  ·have h20q := h20; try simp only [zq] at h20q
                   subst h20q; exact absurd hop (by decide)
                  ·have h20q := h20; try simp only [zq] at h20q
                   refine zw ?_
                   iterate 2 refine zm ?_
                   show AW _ (.cond _ _ _) _ _ _
                   refine cC' rfl (fun h21 => ?_) (fun h21 => ?_)
                   ·have h21q := h21; try simp only [zq] at h21q
                    subst h21q; exact absurd hop (by decide)
                   ·have h21q := h21; try simp only [zq] at h21q
                    refine zw ?_
                    iterate 2 refine zm ?_
                    show AW _ (.cond _ _ _) _ _ _
                    refine cC' rfl (fun h22 => ?_) (fun h22 => ?_)
                    ·have h22q := h22; try simp only [zq] at h22q
                     subst h22q
                     refine zw ?_
                     refine zm ?_
                     refine aLit st rfl (by repeat constructor) fun b86 H23 st => ?_
                     refine zm ?_
                     refine aCutH (n := 12) (xs := [255, 255, 255, 255, 255, 255, 255, 255, 255, 255, 255, 255]) (st.rowAll 1 rfl (by first | rfl | (simp [beB_len, *]; done) | (simp [beB_len, *]; omega))) rfl rfl (by decide) fun v88 s88 => ?_
                     refine aAppP st 0 (ob := some b86) rfl rfl rfl (by decide) (by first | rfl | (simp [beB_len, *]; done) | (simp [beB_len, *]; omega)) (s88 _ (st.rowAll 1 rfl (by first | rfl | (simp [beB_len, *]; done) | (simp [beB_len, *]; omega)))).src (by first | rfl | (simp [beB_len, *]; done) | (simp [beB_len, *]; omega)) (by first | decide | omega | (simp; omega)) (by first | decide | omega | (simp; omega)) (by first | decide | omega | (simp; omega)) (by repeat constructor) fun b89 H24 st => ?_
                     refine aLit st rfl (by repeat constructor) fun b90 H25 st => ?_
                     refine aAppP st 1 (ob := some b89) rfl rfl rfl (by decide) (by first | rfl | (simp [beB_len, *]; done) | (simp [beB_len, *]; omega)) (st.rowAll 0 rfl (by first | rfl | (simp [beB_len, *]; done) | (simp [beB_len, *]; omega))).src (by first | rfl | (simp [beB_len, *]; done) | (simp [beB_len, *]; omega)) (by first | decide | omega | (simp; omega)) (by first | decide | omega | (simp; omega)) (by first | decide | omega | (simp; omega)) (by repeat constructor) fun b91 H26 st => ?_
                     iterate 4 refine zm ?_
                     refine sE ?_
                     refine ⟨_, out2 zr zr ⟨rfl, rfl⟩, ?_⟩
                     refine ⟨some b91, ?_, ?_, fun h => absurd h (by decide)⟩
                     ·first | rfl | (simp [serveB, useL]; done)
                     ·have st2 := st.pick 1 rfl; exact st2
                    ·have h22q := h22; try simp only [zq] at h22q
                     refine zw ?_
                     iterate 2 refine zm ?_
                     show AW _ (.cond _ _ _) _ _ _
                     refine cC' rfl (fun h27 => ?_) (fun h27 => ?_)
                     ·have h27q := h27; try simp only [zq] at h27q
                      subst h27q
                      show AW _ (.cond _ _ _) _ _ _
                      refine cT rfl ?_
                      refine zw ?_
                      refine zm ?_
                      refine aLit st rfl (by repeat constructor) fun b98 H28 st => ?_
                      refine zm ?_
                      refine aAppP st 0 (ob := some b98) rfl rfl rfl (by decide) (by first | rfl | (simp [beB_len, *]; done) | (simp [beB_len, *]; omega)) (st.rowAll 1 rfl (by first | rfl | (simp [beB_len, *]; done) | (simp [beB_len, *]; omega))).src (by first | rfl | (simp [beB_len, *]; done) | (simp [beB_len, *]; omega)) (by first | decide | omega | (simp; omega)) (by first | decide | omega | (simp; omega)) (by first | decide | omega | (simp; omega)) (by repeat constructor) fun b100 H29 st => ?_
                      refine aLit st rfl (by repeat constructor) fun b101 H30 st => ?_
                      refine aAppP st 1 (ob := some b100) rfl rfl rfl (by decide) (by first | rfl | (simp [beB_len, *]; done) | (simp [beB_len, *]; omega)) (st.rowAll 0 rfl (by first | rfl | (simp [beB_len, *]; done) | (simp [beB_len, *]; omega))).src (by first | rfl | (simp [beB_len, *]; done) | (simp [beB_len, *]; omega)) (by first | decide | omega | (simp; omega)) (by first | decide | omega | (simp; omega)) (by first | decide | omega | (simp; omega)) (by repeat constructor) fun b102 H31 st => ?_
                      iterate 2 refine zm ?_
                      refine sE ?_
                      refine ⟨_, out2 zr zr ⟨rfl, rfl⟩, ?_⟩
                      refine ⟨some b102, ?_, ?_, fun h => absurd h (by decide)⟩
                      ·first | rfl | (simp [serveB, useL]; done)
                      ·have st2 := st.pick 1 rfl; exact st2
                     ·have h27q := h27; try simp only [zq] at h27q
                      refine zw ?_
                      iterate 2 refine zm ?_
                      show AW _ (.cond _ _ _) _ _ _
                      refine cC' rfl (fun h32 => ?_) (fun h32 => ?_)
                      ·have h32q := h32; try simp only [zq] at h32q
                       subst h32q
                       refine zw ?_
                       refine zm ?_
                       refine aLit st rfl (by repeat constructor) fun b98 H33 st => ?_
                       refine zm ?_
                       refine aAppP st 0 (ob := some b98) rfl rfl rfl (by decide) (by first | rfl | (simp [beB_len, *]; done) | (simp [beB_len, *]; omega)) (st.rowAll 1 rfl (by first | rfl | (simp [beB_len, *]; done) | (simp [beB_len, *]; omega))).src (by first | rfl | (simp [beB_len, *]; done) | (simp [beB_len, *]; omega)) (by first | decide | omega | (simp; omega)) (by first | decide | omega | (simp; omega)) (by first | decide | omega | (simp; omega)) (by repeat constructor) fun b100 H34 st => ?_
                       refine aLit st rfl (by repeat constructor) fun b101 H35 st => ?_
                       refine aAppP st 1 (ob := some b100) rfl rfl rfl (by decide) (by first | rfl | (simp [beB_len, *]; done) | (simp [beB_len, *]; omega)) (st.rowAll 0 rfl (by first | rfl | (simp [beB_len, *]; done) | (simp [beB_len, *]; omega))).src (by first | rfl | (simp [beB_len, *]; done) | (simp [beB_len, *]; omega)) (by first | decide | omega | (simp; omega)) (by first | decide | omega | (simp; omega)) (by first | decide | omega | (simp; omega)) (by repeat constructor) fun b102 H36 st => ?_
                       iterate 2 refine zm ?_
                       refine sE ?_
                       refine ⟨_, out2 zr zr ⟨rfl, rfl⟩, ?_⟩
                       refine ⟨some b102, ?_, ?_, fun h => absurd h (by decide)⟩
                       ·first | rfl | (simp [serveB, useL]; done)
                       ·have st2 := st.pick 1 rfl; exact st2
                      ·have h32q := h32; try simp only [zq] at h32q
                       refine zw ?_
                       iterate 2 refine zm ?_
                       show AW _ (.cond _ _ _) _ _ _
                       refine cC' rfl (fun h37 => ?_) (fun h37 => ?_)
                       ·have h37q := h37; try simp only [zq] at h37q
                        subst h37q; exact absurd hop (by decide)
                       ·have h37q := h37; try simp only [zq] at h37q
                        refine zw ?_
                        iterate 2 refine zm ?_
                        show AW _ (.cond _ _ _) _ _ _
                        refine cC' rfl (fun h38 => ?_) (fun h38 => ?_)
                        ·have h38q := h38; try simp only [zq] at h38q
                         subst h38q; exact absurd hop (by decide)
                        ·have h38q := h38; try simp only [zq] at h38q
                         refine zw ?_
                         iterate 2 refine zm ?_
                         show AW _ (.cond _ _ _) _ _ _
                         refine cC' rfl (fun h39 => ?_) (fun h39 => ?_)
                         ·have h39q := h39; try simp only [zq] at h39q
                          subst h39q; exact absurd hop (by decide)
                         ·have h39q := h39; try simp only [zq] at h39q
                          refine zw ?_
                          iterate 2 refine zm ?_
                          show AW _ (.cond _ _ _) _ _ _
                          refine cC' rfl (fun h40 => ?_) (fun h40 => ?_)
                          ·have h40q := h40; try simp only [zq] at h40q
                           subst h40q; exact absurd hop (by decide)
                          ·have h40q := h40; try simp only [zq] at h40q
                           refine zw ?_
                           iterate 2 refine zm ?_
                           show AW _ (.cond _ _ _) _ _ _
                           refine cC' rfl (fun h41 => ?_) (fun h41 => ?_)
                           ·have h41q := h41; try simp only [zq] at h41q
                            subst h41q; exact absurd hop (by decide)
                           ·have h41q := h41; try simp only [zq] at h41q
                            refine zw ?_
                            iterate 2 refine zm ?_
                            refine sE ?_
                            refine ⟨_, out2 zr zr ⟨rfl, rfl⟩, ?_⟩
                            have e : useL op = [] := by unfold useL; simp only [if_false, *]
                            have e2 : serveB op sv = false := by unfold serveB; rw [e]; simp only [if_false, *]; rfl
                            exact ⟨none, by rw [e, e2]; rfl, by rw [e]; exact (st.nil 5).pick 0 rfl, fun _ => rfl⟩
theorem fault_call {H : Hp} {f b : Int}  :
  ACalls Tryz.prog 46 [.int .i64 f, .int .i64 b] H (fun v H' => v = .agg #[.int .u8 5, .int .u16 9216, .int .u64 0, .bool false, .int .i64 f, .int .i64 b, .bool true, .bool true] ∧ Stt [] H H' []) := by
 refine acallsW Tryz.func46 f46_ok (Nat.le_of_ble_eq_true rfl) fun hw => ?_
 have st : Stt [] H H [] := Stt.start hw
 unfold f46c
 refine zw ?_
 refine zp st fun b4 H1 st => ?_
 refine zw ?_
 iterate 2 refine zm ?_
 refine aBld rfl (by repeat constructor) ?_
 refine zx st 0 fun H2 st => ?_
 refine sE ?_
 refine ⟨_, out1 (zc st 0), ?_⟩
 exact ⟨rfl, st.drop⟩
def tellsB (op : Int) : Bool := decide (op = 94 ∨ op = 95 ∨ op = 131 ∨ op = 158)
theorem testB {w : Int} (h : 0 ≤ w ∧ w ≤ 255) {k : Nat} (hk : k < 8) : (bits .and .u8 (w.fdiv (2 ^ min ((k : Int)).toNat IntKind.u8.bits)) 1 == 1) = w.toNat.testBit k := by
  obtain ⟨W, rfl⟩ := Int.eq_ofNat_of_zero_le h.1
  have hm : min ((k : Int)).toNat IntKind.u8.bits = k := by simp [IntKind.bits]; omega
  have hd : W / 2 ^ k < 256 := Nat.lt_of_le_of_lt (Nat.div_le_self _ _) (by omega)
  rw [hm, Int.fdiv_eq_ediv_of_nonneg _ (Int.le_of_lt (Int.pow_pos (by decide))), show ((W : Int) / 2 ^ k) = ((W / 2 ^ k : Nat) : Int) by simp, show (1 : Int) = ((1 : Nat) : Int) from rfl, u8_and_nat _ _ hd (by decide), Nat.and_one_is_mod, Bool.eq_iff_iff, beq_iff_eq]
  show _ ↔ (W.testBit k = true)
  rw [Nat.testBit_eq_decide_div_mod_eq, decide_eq_true_iff]
  omega
theorem andNotT {a m : Int} (ha : 0 ≤ a ∧ a ≤ 255) (hm : 0 ≤ m ∧ m ≤ 255) : (0 ≤ bits .andNot .u8 a m ∧ bits .andNot .u8 a m ≤ 255) ∧ ∀ l, l < 8 → (bits .andNot .u8 a m).toNat.testBit l = (a.toNat.testBit l && !m.toNat.testBit l) := by
  rw [u8_andNot _ _ ha.1 (by omega) hm.1 (by omega)]
  have h1 : a.toNat &&& (255 - m.toNat) < 2 ^ 8 := Nat.and_lt_two_pow _ (by omega)
  refine ⟨by omega, fun l hl => ?_⟩
  have hm' : m.toNat < 2 ^ 8 := by omega
  rw [show ((a.toNat &&& (255 - m.toNat) : Nat) : Int).toNat = a.toNat &&& (255 - m.toNat) from rfl, Nat.testBit_and, show 255 - m.toNat = 2 ^ 8 - (m.toNat + 1) by omega, Nat.testBit_two_pow_sub_succ hm']
  simp [hl]
theorem getD_out {xs : List Int} {i : Nat} (h : ¬ i < xs.length) : xs.getD i 0 = 0 := by simp [List.getD, List.getElem?_eq_none (Nat.le_of_not_lt h)]
theorem odd_in {xs ms : List Int} (hb : ByteL xs) (hbm : ByteL ms) (i : Nat) : (0 ≤ bits .andNot .u8 (xs.getD i 0) (ms.getD i 0) ∧ bits .andNot .u8 (xs.getD i 0) (ms.getD i 0) ≤ 255) ∧ ∀ l, l < 8 → (bits .andNot .u8 (xs.getD i 0) (ms.getD i 0)).toNat.testBit l = oddB xs ms i l := andNotT (hb.getD i) (hbm.getD i)
theorem odd_out {xs ms : List Int} (hb : ByteL xs) {i : Nat} (h : ¬ i < ms.length) : (0 ≤ xs.getD i 0 ∧ xs.getD i 0 ≤ 255) ∧ ∀ l, l < 8 → (xs.getD i 0).toNat.testBit l = oddB xs ms i l := ⟨hb.getD i, fun l _ => by unfold oddB; rw [getD_out h]; simp⟩
theorem odd_call {H : Hp} {xs ms : List Int} {x y : Value} (hx : Sl H 1 xs.length (xs.map (Value.int .u8)) x) (hm : Sl H 1 ms.length (ms.map (Value.int .u8)) y) (hb : ByteL xs) (hbm : ByteL ms) (hl : xs.length ≤ 140737488351232) (hlm : ms.length ≤ 140737488351232) :
  ACalls Tryz.prog 48 [x, y] H (fun v H' => ∃ f b : Int, v = .tuple #[.int .i64 f, .int .i64 b] ∧ Stt [] H H' [] ∧ OddAt xs ms f b) := by
 refine acallsW Tryz.func48 f48_ok (Nat.le_of_ble_eq_true rfl) fun hw => ?_
 have st : Stt [] H H [] := Stt.start hw
 unfold f48c
 refine zw ?_
 iterate 2 refine zm ?_
 refine zw ?_
 refine aMovV x rfl ?_
 refine aLen (st.slc hx) rfl ?_
 refine zm ?_
 refine sE ?_
 show AW _ (.loop _) _ _ _
 refine AW_loopN (fun m t1 H1 => ∃ (i : Nat), m = xs.length - i ∧ (i ≤ xs.length) ∧ (∀ j, j < i → ∀ k, k < 8 → oddB xs ms j k = false) ∧ t1 11 = .int .i64 (i : Int) ∧ Stt [] H H1 []) (xs.length - 0) ⟨0, rfl, by omega, fun j hj => by omega, rfl, (st.sel [] (by decide))⟩ [4, 5, 6, 7, 8, 11, 12, 13, 14, 15, 16, 17, 18, 19, 20, 21, 22, 23, 24, 25, 26, 27, 28, 29, 30, 31, 32, 33, 34, 35, 36, 37] (by decide) ?_
 rintro m t1 H1 hk hI
 obtain ⟨i, rfl, hi, hno, ht11, st⟩ := hI
 obtain ⟨u, rfl⟩ : ∃ u, t1 = (upd (mix [4, 5, 6, 7, 8, 11, 12, 13, 14, 15, 16, 17, 18, 19, 20, 21, 22, 23, 24, 25, 26, 27, 28, 29, 30, 31, 32, 33, 34, 35, 36, 37] _ u) (some 11) _) := ⟨t1, by rw [← hk, upd_self ht11]⟩
 clear hk ht11
 refine zw ?_
 refine zm ?_
 show AW _ (.cond _ _ _) _ _ _
 refine cC' rfl (fun h1 => ?_) (fun h1 => ?_)
 ·have hlt : i < xs.length := by have := of_decide_eq_true h1; omega
  refine zw ?_
  refine zm ?_
  refine aIxB (st.slc hx) rfl rfl (by first | decide | omega) fun b14 o14 g14 => ?_
  refine aLdG rfl g14 ?_
  iterate 2 refine zm ?_
  refine zw ?_
  refine zm ?_
  refine aMovV y rfl ?_
  refine aLen (st.slc hm) rfl ?_
  refine zm ?_
  show AW _ (.cond _ _ _) _ _ _
  refine cC' rfl (fun h2 => ?_) (fun h2 => ?_)
  ·have hin : (i < ms.length) := by have := of_decide_eq_true h2; omega
   obtain ⟨hW, hT⟩ := odd_in hb hbm i
   refine zw ?_
   refine zm ?_
   refine aMovV y rfl ?_
   refine zm ?_
   refine aIxB (st.slc hm) rfl rfl (by first | decide | omega) fun b23 o23 g23 => ?_
   refine aLdG rfl g23 ?_
   iterate 2 refine zm ?_
   refine zw ?_
   refine zm ?_
   refine sE ?_
   show AW _ (.loop _) _ _ _
   refine AW_loopN (fun m t1 H1 => ∃ (k : Nat), m = 2 * k ∧ (k ≤ 8) ∧ (∀ l, k ≤ l → l < 8 → oddB xs ms i l = false) ∧ t1 8 = .int .i64 ((k : Int) - 1) ∧ Stt [] H H1 []) (2 * 8) ⟨8, rfl, by omega, fun l h1 h2 => by omega, rfl, (st.sel [] (by decide))⟩ [4, 5, 8, 26, 27, 28, 29, 30, 31, 32, 33, 34, 35, 36] (by decide) ?_
   rintro m t1 H1 hk hI
   obtain ⟨k, rfl, hk8, hk2, ht8, st⟩ := hI
   obtain ⟨u, rfl⟩ : ∃ u, t1 = (upd (mix [4, 5, 8, 26, 27, 28, 29, 30, 31, 32, 33, 34, 35, 36] _ u) (some 8) _) := ⟨t1, by rw [← hk, upd_self ht8]⟩
   clear hk ht8
   refine zw ?_
   iterate 2 refine zm ?_
   show AW _ (.cond _ _ _) _ _ _
   refine cC' rfl (fun h3 => ?_) (fun h3 => ?_)
   ·obtain ⟨m, rfl⟩ : ∃ m, k = m + 1 := ⟨k - 1, by have := of_decide_eq_true h3; omega⟩
    have e1 : ((m + 1 : Nat) : Int) - 1 = (m : Int) := by omega
    refine zw ?_
    iterate 2 refine zm ?_
    refine aN rfl (e_shr rfl rfl (by omega)) (by constructor) ?_
    iterate 2 refine zm ?_
    show AW _ (.cond _ _ _) _ _ _
    refine cC' rfl (fun h4 => ?_) (fun h4 => ?_)
    ·have hbit := h4
     rw [e1] at hbit
     replace hbit := (testB hW (k := m) (by omega)).symm.trans hbit
     replace hbit := (hT m (by omega)).symm.trans hbit
     refine zw ?_
     iterate 4 refine zm ?_
     refine sE ?_
     refine ⟨_, out2 zr zr ⟨rfl, rfl⟩, ?_⟩
     exact ⟨_, _, rfl, st.drop, .inr ⟨i, m, rfl, e1, hlt, by omega, hbit, hno, fun l h1 h2 => hk2 l h1 h2⟩⟩
    ·have hbit := h4
     rw [e1] at hbit
     replace hbit := (testB hW (k := m) (by omega)).symm.trans hbit
     replace hbit := (hT m (by omega)).symm.trans hbit
     refine zw ?_
     iterate 3 refine zm ?_
     refine sE ?_
     exact ⟨_, by omega, m, rfl, by omega, fun l h1 h2 => by { rcases Nat.eq_or_lt_of_le h1 with h | h; subst h; exact hbit; exact hk2 l h h2 }, congrArg (Value.int .i64) (by rw [wi _ (by omega)]; omega), (st.sel [] (by decide))⟩
   ·obtain rfl : k = 0 := by have := of_decide_eq_false h3; omega
    refine zw ?_
    iterate 2 refine zm ?_
    refine sE ?_
    exact ⟨_, by omega, i + 1, rfl, by omega, fun j hj l hl8 => by { rcases Nat.lt_succ_iff_lt_or_eq.1 hj with h | h; exact hno j h l hl8; subst h; exact hk2 l (Nat.zero_le _) hl8 }, congrArg (Value.int .i64) (wi _ (by omega)), (st.sel [] (by decide))⟩
  ·have hin : ¬ (i < ms.length) := by have := of_decide_eq_false h2; omega
   obtain ⟨hW, hT⟩ := odd_out (ms := ms) hb hin
   refine zw ?_
   refine zm ?_
   refine sE ?_
   show AW _ (.loop _) _ _ _
   refine AW_loopN (fun m t1 H1 => ∃ (k : Nat), m = 2 * k ∧ (k ≤ 8) ∧ (∀ l, k ≤ l → l < 8 → oddB xs ms i l = false) ∧ t1 8 = .int .i64 ((k : Int) - 1) ∧ Stt [] H H1 []) (2 * 8) ⟨8, rfl, by omega, fun l h1 h2 => by omega, rfl, (st.sel [] (by decide))⟩ [4, 5, 8, 26, 27, 28, 29, 30, 31, 32, 33, 34, 35, 36] (by decide) ?_
   rintro m t1 H1 hk hI
   obtain ⟨k, rfl, hk8, hk2, ht8, st⟩ := hI
   obtain ⟨u, rfl⟩ : ∃ u, t1 = (upd (mix [4, 5, 8, 26, 27, 28, 29, 30, 31, 32, 33, 34, 35, 36] _ u) (some 8) _) := ⟨t1, by rw [← hk, upd_self ht8]⟩
   clear hk ht8
   refine zw ?_
   iterate 2 refine zm ?_
   show AW _ (.cond _ _ _) _ _ _
   refine cC' rfl (fun h5 => ?_) (fun h5 => ?_)
   ·obtain ⟨m, rfl⟩ : ∃ m, k = m + 1 := ⟨k - 1, by have := of_decide_eq_true h5; omega⟩
    have e1 : ((m + 1 : Nat) : Int) - 1 = (m : Int) := by omega
    refine zw ?_
    iterate 2 refine zm ?_
    refine aN rfl (e_shr rfl rfl (by omega)) (by constructor) ?_
    iterate 2 refine zm ?_
    show AW _ (.cond _ _ _) _ _ _
    refine cC' rfl (fun h6 => ?_) (fun h6 => ?_)
    ·have hbit := h6
     rw [e1] at hbit
     replace hbit := (testB hW (k := m) (by omega)).symm.trans hbit
     replace hbit := (hT m (by omega)).symm.trans hbit
     refine zw ?_
     iterate 4 refine zm ?_
     refine sE ?_
     refine ⟨_, out2 zr zr ⟨rfl, rfl⟩, ?_⟩
     exact ⟨_, _, rfl, st.drop, .inr ⟨i, m, rfl, e1, hlt, by omega, hbit, hno, fun l h1 h2 => hk2 l h1 h2⟩⟩
    ·have hbit := h6
     rw [e1] at hbit
     replace hbit := (testB hW (k := m) (by omega)).symm.trans hbit
     replace hbit := (hT m (by omega)).symm.trans hbit
     refine zw ?_
     iterate 3 refine zm ?_
     refine sE ?_
     exact ⟨_, by omega, m, rfl, by omega, fun l h1 h2 => by { rcases Nat.eq_or_lt_of_le h1 with h | h; subst h; exact hbit; exact hk2 l h h2 }, congrArg (Value.int .i64) (by rw [wi _ (by omega)]; omega), (st.sel [] (by decide))⟩
   ·obtain rfl : k = 0 := by have := of_decide_eq_false h5; omega
    refine zw ?_
    iterate 2 refine zm ?_
    refine sE ?_
    exact ⟨_, by omega, i + 1, rfl, by omega, fun j hj l hl8 => by { rcases Nat.lt_succ_iff_lt_or_eq.1 hj with h | h; exact hno j h l hl8; subst h; exact hk2 l (Nat.zero_le _) hl8 }, congrArg (Value.int .i64) (wi _ (by omega)), (st.sel [] (by decide))⟩
 ·have hge : i = xs.length := by have := of_decide_eq_false h1; omega
  subst hge
  refine zw ?_
  iterate 2 refine zm ?_
  refine sE ?_
  refine ⟨_, out2 zr zr ⟨rfl, rfl⟩, ?_⟩
  exact ⟨-1, -1, rfl, st.drop, .inl ⟨rfl, rfl, hno⟩⟩

structure Cmd where
  kind : Int
  long : Bool
  lba : Int
  blocks : Int
  alloc : Int
  fua : Bool
  prot : Int
  unmap : Bool
  evpd : Bool
  page : Int
  control : Int
  save : Bool
  service : Int
  type : Int
  bytes : Bool
def Cmd.cells (c : Cmd) : List Value := [.int .u8 c.kind, .bool c.long, .int .u64 c.lba, .int .u64 c.blocks, .int .i64 c.alloc, .bool c.fua, .int .u8 c.prot, .bool c.unmap, .bool c.evpd, .int .u8 c.page, .int .u8 c.control, .bool c.save, .int .u8 c.service, .int .u8 c.type, .bool c.bytes]
def cmd0 (k : Int) : Cmd := ⟨k, false, 0, 0, 0, false, 0, false, false, 0, 0, false, 0, 0, false⟩
/-- The blocks of a command: the first, how many, where their number stands. -/
def spanM (n : Nat) (xs : List Int) : Int × Int × Int :=
  if n = 6 then (rgetV xs 1 3 % 2097152, if xs.getD 4 0 = 0 then 256 else xs.getD 4 0, 4)
  else if n = 10 then (rgetV xs 2 4, rgetV xs 7 2, 7)
  else (rgetV xs 2 8, rgetV xs 10 4, 10)
def blocksC (k : Int) (n : Nat) (xs : List Int) : Cmd :=
  { cmd0 k with lba := (spanM n xs).1, blocks := (spanM n xs).2.1, prot := if n = 6 ∨ k = 11 then 0 else xs.getD 1 0 / 32, fua := decide (n ≠ 6 ∧ (k = 7 ∨ k = 8)) && (xs.getD 1 0 / 8 % 2 == 1), bytes := decide (k = 10) && (xs.getD 1 0 / 2 % 2 == 1), unmap := decide (k = 12) && (xs.getD 1 0 / 8 % 2 == 1) }
def blocksF (k : Int) (n : Nat) (xs : List Int) : Int × Int := if k ≤ 10 ∧ (spanM n xs).2.1 > 256 then ((spanM n xs).2.2, 7) else (-1, 0)
def fillC (k : Int) (n : Nat) (xs : List Int) (sv : Int) : Cmd :=
  if k = 2 then { cmd0 k with alloc := xs.getD 4 0, long := xs.getD 1 0 % 2 == 1 }
  else if k = 3 then { cmd0 k with evpd := xs.getD 1 0 % 2 == 1, page := xs.getD 2 0, alloc := IntKind.i64.wrap (rgetV xs 3 2) }
  else if k = 4 then { cmd0 k with long := n == 10, alloc := if n = 10 then IntKind.i64.wrap (rgetV xs 7 2) else xs.getD 4 0, save := xs.getD 1 0 % 2 == 1 }
  else if k = 5 then { cmd0 k with long := n == 10, alloc := if n = 10 then IntKind.i64.wrap (rgetV xs 7 2) else xs.getD 4 0, control := xs.getD 2 0 / 64, page := xs.getD 2 0 % 64 }
  else if k = 6 then { cmd0 k with long := n == 16, alloc := if n = 16 then IntKind.i64.wrap (rgetV xs 10 4) else 0 }
  else if 7 ≤ k ∧ k ≤ 12 then blocksC k n xs
  else if k = 13 then { cmd0 k with alloc := IntKind.i64.wrap (rgetV xs 7 2) }
  else if k = 14 then { cmd0 k with lba := rgetV xs 2 8, blocks := xs.getD 13 0, prot := xs.getD 1 0 / 32, fua := xs.getD 1 0 / 8 % 2 == 1 }
  else if k = 15 then { cmd0 k with service := sv, alloc := IntKind.i64.wrap (rgetV xs 7 2) }
  else if k = 16 then { cmd0 k with service := sv, type := xs.getD 2 0 % 16, alloc := IntKind.i64.wrap (rgetV xs 5 4) }
  else if k = 17 then { cmd0 k with page := xs.getD 2 0, alloc := IntKind.i64.wrap (rgetV xs 6 4) }
  else if k = 18 then { cmd0 k with alloc := IntKind.i64.wrap (rgetV xs 10 4) }
  else cmd0 k
def fillF (k : Int) (n : Nat) (xs : List Int) : Int × Int :=
  if k = 3 then (if (xs.getD 1 0 % 2 == 1) = false ∧ xs.getD 2 0 ≠ 0 then (2, 7) else (-1, 0))
  else if k = 4 then (if xs.getD 1 0 / 16 % 2 = 0 then (1, 4) else (-1, 0))
  else if 7 ≤ k ∧ k ≤ 12 then blocksF k n xs
  else if k = 17 then (if xs.getD 2 0 = 3 then (2, 1) else (-1, 0))
  else (-1, 0)
def kindL (op : Int) : Int := if op = 0 then 1 else if op = 3 then 2 else if op = 18 then 3 else if op = 21 ∨ op = 85 then 4 else if op = 26 ∨ op = 90 then 5 else if op = 37 ∨ op = 158 then 6 else if op = 8 ∨ op = 40 ∨ op = 136 then 7 else if op = 10 ∨ op = 42 ∨ op = 138 then 8 else if op = 46 then 9 else if op = 47 then 10 else if op = 53 ∨ op = 145 then 11 else if op = 65 ∨ op = 147 then 12 else if op = 66 then 13 else if op = 137 then 14 else if op = 94 then 15 else if op = 95 then 16 else if op = 160 then 17 else if op = 131 then 18 else 0
/-- Why bytes are no command, or where they are at fault. -/
structure Sns where
  key : Int
  code : Int
  info : Int
  hasInfo : Bool
  field : Int
  bit : Int
  hasField : Bool
  inCmd : Bool
def Sns.cells (s : Sns) : List Value := [.int .u8 s.key, .int .u16 s.code, .int .u64 s.info, .bool s.hasInfo, .int .i64 s.field, .int .i64 s.bit, .bool s.hasField, .bool s.inCmd]
def flt (f b : Int) : Sns := ⟨5, 9216, 0, false, f, b, true, true⟩
def sns0 : Sns := ⟨0, 0, 0, false, 0, 0, false, false⟩
def svOf (xs : List Int) : Int := if tellsB (xs.getD 0 0) = true then xs.getD 1 0 % 32 else 0
/-- What bytes are, if f and b are where the first bit is that isn't allowed. -/
def parseM (xs : List Int) (f b : Int) : Cmd × Sns × Bool :=
  let op := xs.getD 0 0
  let n := (useL op).length
  if xs.length = 0 then (cmd0 0, flt 0 (-1), false)
  else if tellsB op = true ∧ xs.length = 1 then (cmd0 0, flt 1 (-1), false)
  else if useL op = [] then (cmd0 0, ⟨5, 8192, 0, false, 0, 7, true, true⟩, false)
  else if xs.length < n then (cmd0 0, flt xs.length (-1), false)
  else if f ≥ 0 then (cmd0 0, flt f b, false)
  else if serveB op (svOf xs) = false then (cmd0 0, flt 1 4, false)
  else if (fillF (kindL op) n (xs.take n)).1 ≥ 0 then (cmd0 0, flt (fillF (kindL op) n (xs.take n)).1 (fillF (kindL op) n (xs.take n)).2, false)
  else (fillC (kindL op) n (xs.take n) (svOf xs), sns0, true)
theorem byte256 {p : Int → Prop} {a : Int} (h : 0 ≤ a ∧ a ≤ 255) (hp : ∀ n : Nat, n < 256 → p (n : Int)) : p a := by
  obtain ⟨n, rfl⟩ := Int.eq_ofNat_of_zero_le h.1
  exact hp n (by omega)
section
variable {a : Int}
theorem b_and1 (h : 0 ≤ a ∧ a ≤ 255) : bits .and .u8 a 1 = a % 2 := byte256 (p := fun a => bits .and .u8 a 1 = a % 2) h (by decide +kernel)
theorem b_and8 (h : 0 ≤ a ∧ a ≤ 255) : (bits .and .u8 a 8 != 0) = (a / 8 % 2 == 1) := byte256 (p := fun a => (bits .and .u8 a 8 != 0) = (a / 8 % 2 == 1)) h (by decide +kernel)
theorem b_and2 (h : 0 ≤ a ∧ a ≤ 255) : (bits .and .u8 a 2 != 0) = (a / 2 % 2 == 1) := byte256 (p := fun a => (bits .and .u8 a 2 != 0) = (a / 2 % 2 == 1)) h (by decide +kernel)
theorem b_and16 (h : 0 ≤ a ∧ a ≤ 255) : (bits .and .u8 a 16 == 0) = (a / 16 % 2 == 0) := byte256 (p := fun a => (bits .and .u8 a 16 == 0) = (a / 16 % 2 == 0)) h (by decide +kernel)
theorem b_and63 (h : 0 ≤ a ∧ a ≤ 255) : bits .and .u8 a 63 = a % 64 := byte256 (p := fun a => bits .and .u8 a 63 = a % 64) h (by decide +kernel)
theorem b_and15 (h : 0 ≤ a ∧ a ≤ 255) : bits .and .u8 a 15 = a % 16 := byte256 (p := fun a => bits .and .u8 a 15 = a % 16) h (by decide +kernel)
theorem b_and31 (h : 0 ≤ a ∧ a ≤ 255) : bits .and .u8 a 31 = a % 32 := byte256 (p := fun a => bits .and .u8 a 31 = a % 32) h (by decide +kernel)
theorem b_shr5 (h : 0 ≤ a ∧ a ≤ 255) : a.fdiv (2 ^ min (5 : Int).toNat IntKind.u8.bits) = a / 32 := by rw [shr_eq]; rfl
theorem b_shr6 (h : 0 ≤ a ∧ a ≤ 255) : a.fdiv (2 ^ min (6 : Int).toNat IntKind.u8.bits) = a / 64 := by rw [shr_eq]; rfl
end
theorem kind_call {H : Hp} {op : Int} (hop : op ∈ codes) :
  ACalls Tryz.prog 49 [.int .u8 op] H (fun v H' => v = .int .u8 (kindL op) ∧ Stt [] H H' []) := by
 refine acallsW Tryz.func49 f49_ok (Nat.le_of_ble_eq_true rfl) fun hw => ?_
 have st : Stt [] H H [] := Stt.start hw
 unfold f49c
 refine zw ?_
 refine zm ?_
 refine zw ?_
 refine zm ?_
 refine zw ?_
 iterate 2 refine zm ?_
 show AW _ (.cond _ _ _) _ _ _
 refine cC' rfl (fun h1 => ?_) (fun h1 => ?_)
 ·have h1q := h1; try simp only [zq] at h1q
  subst h1q
  refine zw ?_
  refine zm ?_
  refine sE ?_
  refine ⟨_, out1 zr, ?_⟩
  exact ⟨congrArg (Value.int .u8) (by unfold kindL; first | rfl | simp [*]), st.drop⟩
 ·have h1q := h1; try simp only [zq] at h1q
  refine zw ?_
  iterate 2 refine zm ?_
  show AW _ (.cond _ _ _) _ _ _
  refine cC' rfl (fun h2 => ?_) (fun h2 => ?_)
  ·have h2q := h2; try simp only [zq] at h2q
   subst h2q; exact absurd hop (by decide)
  ·have h2q := h2; try simp only [zq] at h2q
   refine zw ?_
   iterate 2 refine zm ?_
   show AW _ (.cond _ _ _) _ _ _
   refine cC' rfl (fun h3 => ?_) (fun h3 => ?_)
   ·have h3q := h3; try simp only [zq] at h3q
    subst h3q; exact absurd hop (by decide)
   ·have h3q := h3; try simp only [zq] at h3q
    refine zw ?_
    iterate 2 refine zm ?_
    show AW _ (.cond _ _ _) _ _ _
    refine cC' rfl (fun h4 => ?_) (fun h4 => ?_)
    ·have h4q := h4; try simp only [zq] at h4q
     subst h4q; exact absurd hop (by decide)
    ·have h4q := h4; try simp only [zq] at h4q
     refine zw ?_
     iterate 2 refine zm ?_
     show AW _ (.cond _ _ _) _ _ _
     refine cC' rfl (fun h5 => ?_) (fun h5 => ?_)
     ·have h5q := h5; try simp only [zq] at h5q
      subst h5q; exact absurd hop (by decide)
     ·have h5q := h5; try simp only [zq] at h5q
      refine zw ?_
      iterate 2 refine zm ?_
      show AW _ (.cond _ _ _) _ _ _
      refine cC' rfl (fun h6 => ?_) (fun h6 => ?_)
      ·have h6q := h6; try simp only [zq] at h6q
       subst h6q; exact absurd hop (by decide)
      ·have h6q := h6; try simp only [zq] at h6q
       refine zw ?_
       iterate 2 refine zm ?_
       show AW _ (.cond _ _ _) _ _ _
       refine cC' rfl (fun h7 => ?_) (fun h7 => ?_)
       ·have h7q := h7; try simp only [zq] at h7q
        subst h7q; exact absurd hop (by decide)
       ·have h7q := h7; try simp only [zq] at h7q
        refine zw ?_
        iterate 2 refine zm ?_
        show AW _ (.cond _ _ _) _ _ _
        refine cC' rfl (fun h8 => ?_) (fun h8 => ?_)
        ·have h8q := h8; try simp only [zq] at h8q
         subst h8q; exact absurd hop (by decide)
        ·have h8q := h8; try simp only [zq] at h8q
         refine zw ?_
         iterate 2 refine zm ?_
         show AW _ (.cond _ _ _) _ _ _
         refine cC' rfl (fun h9 => ?_) (fun h9 => ?_)
         ·have h9q := h9; try simp only [zq] at h9q
          subst h9q; exact absurd hop (by decide)
         ·have h9q := h9; try simp only [zq] at h9q
          refine zw ?_
          iterate 2 refine zm ?_
          show AW _ (.cond _ _ _) _ _ _
          refine cC' rfl (fun h10 => ?_) (fun h10 => ?_)
          ·have h10q := h10; try simp only [zq] at h10q
           subst h10q; exact absurd hop (by decide)
          ·have h10q := h10; try simp only [zq] at h10q
           refine zw ?_
           iterate 2 refine zm ?_
           show AW _ (.cond _ _ _) _ _ _
           refine cC' rfl (fun h11 => ?_) (fun h11 => ?_)
           ·have h11q := h11; try simp only [zq] at h11q
            subst h11q; exact absurd hop (by decide)
           ·have h11q := h11; try simp only [zq] at h11q
            refine zw ?_
            iterate 2 refine zm ?_
            show AW _ (.cond _ _ _) _ _ _
            refine cC' rfl (fun h12 => ?_) (fun h12 => ?_)
            ·have h12q := h12; try simp only [zq] at h12q
             subst h12q
             refine zw ?_
             refine zm ?_
             refine sE ?_
             refine ⟨_, out1 zr, ?_⟩
             exact ⟨congrArg (Value.int .u8) (by unfold kindL; first | rfl | simp [*]), st.drop⟩
            ·have h12q := h12; try simp only [zq] at h12q
             refine zw ?_
             iterate 2 refine zm ?_
             show AW _ (.cond _ _ _) _ _ _
             refine cC' rfl (fun h13 => ?_) (fun h13 => ?_)
             ·have h13q := h13; try simp only [zq] at h13q
              subst h13q; exact absurd hop (by decide)
             ·have h13q := h13; try simp only [zq] at h13q
              refine zw ?_
              iterate 2 refine zm ?_
              show AW _ (.cond _ _ _) _ _ _
              refine cC' rfl (fun h14 => ?_) (fun h14 => ?_)
              ·have h14q := h14; try simp only [zq] at h14q
               subst h14q; exact absurd hop (by decide)
              ·have h14q := h14; try simp only [zq] at h14q
               refine zw ?_
               iterate 2 refine zm ?_
               show AW _ (.cond _ _ _) _ _ _
               refine cC' rfl (fun h15 => ?_) (fun h15 => ?_)
               ·have h15q := h15; try simp only [zq] at h15q
                subst h15q
                refine zw ?_
                refine zm ?_
                refine sE ?_
                refine ⟨_, out1 zr, ?_⟩
                exact ⟨congrArg (Value.int .u8) (by unfold kindL; first | rfl | simp [*]), st.drop⟩
               ·have h15q := h15; try simp only [zq] at h15q
                refine zw ?_
                iterate 2 refine zm ?_
                show AW _ (.cond _ _ _) _ _ _
                refine cC' rfl (fun h16 => ?_) (fun h16 => ?_)
                ·have h16q := h16; try simp only [zq] at h16q
                 subst h16q; exact absurd hop (by decide)
                ·have h16q := h16; try simp only [zq] at h16q
                 refine zw ?_
                 iterate 2 refine zm ?_
                 show AW _ (.cond _ _ _) _ _ _
                 refine cC' rfl (fun h17 => ?_) (fun h17 => ?_)
                 ·have h17q := h17; try simp only [zq] at h17q
                  subst h17q; exact absurd hop (by decide)
                 ·have h17q := h17; try simp only [zq] at h17q
                  refine zw ?_
                  iterate 2 refine zm ?_
                  show AW _ (.cond _ _ _) _ _ _
                  refine cC' rfl (fun h18 => ?_) (fun h18 => ?_)
                  ·have h18q := h18; try simp only [zq] at h18q
                   subst h18q; exact absurd hop (by decide)
                  ·have h18q := h18; try simp only [zq] at h18q
                   refine zw ?_
                   iterate 2 refine zm ?_
                   show AW _ (.cond _ _ _) _ _ _
                   refine cC' rfl (fun h19 => ?_) (fun h19 => ?_)
                   ·have h19q := h19; try simp only [zq] at h19q
                    subst h19q; exact absurd hop (by decide)
                   ·have h19q := h19; try simp only [zq] at h19q
                    refine zw ?_
                    iterate 2 refine zm ?_
                    show AW _ (.cond _ _ _) _ _ _
                    refine cC' rfl (fun h20 => ?_) (fun h20 => ?_)
                    ·have h20q := h20; try simp only [zq] at h20q
                     subst h20q; exact absurd hop (by decide)
                    ·have h20q := h20; try simp only [zq] at h20q
                     refine zw ?_
                     iterate 2 refine zm ?_
                     show AW _ (.cond _ _ _) _ _ _
                     refine cC' rfl (fun h21 => ?_) (fun h21 => ?_)
                     ·have h21q := h21; try simp only [zq] at h21q
                      subst h21q; exact absurd hop (by decide)
                     ·have h21q := h21; try simp only [zq] at h21q
                      refine zw ?_
                      iterate 2 refine zm ?_
                      show AW _ (.cond _ _ _) _ _ _
                      refine cC' rfl (fun h22 => ?_) (fun h22 => ?_)
                      ·have h22q := h22; try simp only [zq] at h22q
                       subst h22q; exact absurd hop (by decide)
                      ·have h22q := h22; try simp only [zq] at h22q
                       refine zw ?_
                       iterate 2 refine zm ?_
                       show AW _ (.cond _ _ _) _ _ _
                       refine cC' rfl (fun h23 => ?_) (fun h23 => ?_)
                       ·have h23q := h23; try simp only [zq] at h23q
                        subst h23q; exact absurd hop (by decide)
                       ·have h23q := h23; try simp only [zq] at h23q
                        refine zw ?_
                        iterate 2 refine zm ?_
                        show AW _ (.cond _ _ _) _ _ _
                        refine cC' rfl (fun h24 => ?_) (fun h24 => ?_)
                        ·have h24q := h24; try simp only [zq] at h24q
                         subst h24q; exact absurd hop (by decide)
                        ·have h24q := h24; try simp only [zq] at h24q
                         refine zw ?_
                         iterate 2 refine zm ?_
                         show AW _ (.cond _ _ _) _ _ _
                         refine cC' rfl (fun h25 => ?_) (fun h25 => ?_)
                         ·have h25q := h25; try simp only [zq] at h25q
                          subst h25q; exact absurd hop (by decide)
                         ·have h25q := h25; try simp only [zq] at h25q
                          refine zw ?_
                          iterate 2 refine zm ?_
                          show AW _ (.cond _ _ _) _ _ _
                          refine cC' rfl (fun h26 => ?_) (fun h26 => ?_)
                          ·have h26q := h26; try simp only [zq] at h26q
                           subst h26q; exact absurd hop (by decide)
                          ·have h26q := h26; try simp only [zq] at h26q
                           refine zw ?_
                           iterate 2 refine zm ?_
                           show AW _ (.cond _ _ _) _ _ _
                           refine cC' rfl (fun h27 => ?_) (fun h27 => ?_)
                           ·have h27q := h27; try simp only [zq] at h27q
                            subst h27q
                            refine zw ?_
                            refine zm ?_
                            refine sE ?_
                            refine ⟨_, out1 zr, ?_⟩
                            exact ⟨congrArg (Value.int .u8) (by unfold kindL; first | rfl | simp [*]), st.drop⟩
                           ·have h27q := h27; try simp only [zq] at h27q
                            refine zw ?_
                            refine zm ?_
                            refine sE ?_
                            refine ⟨_, out1 zr, ?_⟩
                            exact ⟨congrArg (Value.int .u8) (by unfold kindL; first | rfl | simp [*]), st.drop⟩
theorem rgetV_in {xs : List Int} (a n : Nat) (hn : 1 ≤ n ∧ n ≤ 8) (hl : a + n ≤ xs.length) : rgetV xs (a : Int) (n : Int) = beN ((xs.drop a).take n) := by
  have : rfieldE xs.length (a : Int) (n : Int) = 0 := by
    unfold rfieldE
    rw [if_neg (by omega), if_neg (by omega)]
  unfold rgetV
  rw [if_pos this]
  rfl
theorem number_call {H : Hp} {xs : List Int} {x : Value} {at_ n : Int} (hx : Sl H 1 xs.length (xs.map (Value.int .u8)) x) (hb : ByteL xs) (hl : xs.length ≤ 1000000000000000) (hn : -9000000000000000000 ≤ n ∧ n ≤ 9000000000000000000) :
  ACalls Tryz.prog 77 [x, .int .i64 at_, .int .i64 n] H (fun v H' => v = .int .u64 (rgetV xs at_ n) ∧ Stt [] H H' []) := by
 refine acallsW Tryz.func77 f77_ok (Nat.le_of_ble_eq_true rfl) fun hw => ?_
 have st : Stt [] H H [] := Stt.start hw
 unfold f77c
 refine zw ?_
 refine zm ?_
 refine zw ?_
 refine aMovV x rfl ?_
 iterate 2 refine zm ?_
 refine aC (get_call (st.slc hx) hb hl hn) fun v13 H1 ⟨hv, st1⟩ => ?_
 subst hv
 replace st := st.call st1 rfl
 clear st1
 iterate 5 refine zm ?_
 refine zw ?_
 iterate 2 refine zm ?_
 refine sE ?_
 refine ⟨_, out1 zr, ?_⟩
 exact ⟨rfl, st.drop⟩
theorem span16_call {H : Hp} {b : Nat} {k : Int} {xs : List Int} {x : Value} (hk : H.m b = some ⟨true, 108, [.int .u8 k, .bool false, .int .u64 0, .int .u64 0, .int .i64 0, .bool false, .int .u8 0, .bool false, .bool false, .int .u8 0, .int .u8 0, .bool false, .int .u8 0, .int .u8 0, .bool false]⟩) (hx : Sl H 1 16 (xs.map (Value.int .u8)) x) (hb : ByteL xs) (hlen : xs.length = 16) (ha : Apart b x) :
  ACalls Tryz.prog 124 [zP b, x] H (fun v H' => v = .int .i64 (spanM 16 xs).2.2 ∧ Stt [b] H H' [⟨some b, true, ⟨true, 108, [.int .u8 k, .bool false, .int .u64 (spanM 16 xs).1, .int .u64 (spanM 16 xs).2.1, .int .i64 0, .bool false, .int .u8 0, .bool false, .bool false, .int .u8 0, .int .u8 0, .bool false, .int .u8 0, .int .u8 0, .bool false]⟩⟩]) := by
 refine acallsW Tryz.func124 f124_ok (Nat.le_of_ble_eq_true rfl) fun hw => ?_
 have st : Stt [b] H H [] := Stt.start hw
 replace st := st.mine hk rfl (by simp) (by simp)
 unfold f124c
 refine zw ?_
 refine zm ?_
 refine zw ?_
 refine aMovV x rfl ?_
 refine aLen (st.slcX hx ha) rfl ?_
 refine zw ?_
 refine zb (.bool false) ?_
 refine zm ?_
 refine zf ?_
 refine zw ?_
 refine zb (.bool false) ?_
 refine zm ?_
 refine zf ?_
 refine zw ?_
 iterate 2 refine zm ?_
 refine aMovV x rfl ?_
 refine aC (number_call (by rw [hlen]; exact (st.slcX hx ha)) hb (by omega) (by decide)) fun v43 H1 ⟨hv, st1⟩ => ?_
 subst hv
 replace st := st.call st1 rfl
 clear st1
 refine aMovV x rfl ?_
 refine aC (number_call (by rw [hlen]; exact (st.slcX hx ha)) hb (by omega) (by decide)) fun v45 H2 ⟨hv, st1⟩ => ?_
 subst hv
 replace st := st.call st1 rfl
 clear st1
 iterate 2 refine zm ?_
 refine zx st 0 fun H3 st => ?_
 iterate 2 refine zm ?_
 refine zx st 0 fun H4 st => ?_
 refine zw ?_
 refine zm ?_
 refine sE ?_
 refine ⟨_, out1 zr, ?_⟩
 refine ⟨rfl, ?_⟩
 have st2 := st.pick 0 rfl
 exact st2
end Go.Proofs.YtjmjkdelkaflmaaGreatDoor.Abs
