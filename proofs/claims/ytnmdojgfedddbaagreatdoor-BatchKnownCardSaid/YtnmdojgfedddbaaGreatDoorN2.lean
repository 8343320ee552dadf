import Derived.Test.YtnmdojgfedddbaaGreatDoorN1
import Derived.Shelf.Abstract
import Derived.Deep.RegionWith
import Derived.Deep.DeepCutAuto
set_option linter.unusedVariables false
set_option linter.unusedSimpArgs false
set_option maxHeartbeats 8000000
set_option maxRecDepth 1000000
namespace Go.Proofs.YtnmdojgfedddbaaGreatDoor.PB
open Go.RowKit Go.Proofs.YtnmdojgfedddbaaGreatDoorW.PrintWords Go.Proofs.YtnmdojgfedddbaaGreatDoorW.PrintLast Go.Proofs.YtnmdojgfedddbaaGreatDoorW.PrintMore
section
mutual
def b_name.j0 : Nat → ByteArray → Bool → Option (Bool)
  | 0, _, _ => none
  | k + 1, x0, x22 => if x22 = true then (some false) else (b_name.l0 k x0 (x0.size : Int) 0)
def b_name.l0 : Nat → ByteArray → Int → Int → Option (Bool)
  | 0, _, _, _ => none
  | k + 1, x0, x24, x25 => if x25 < x24 then (if 0 ≤ x25 then (if x25 < (x0.size : Int) then (if (bt x0 x25) ≥ 97 then (if (bt x0 x25) ≤ 122 then (b_name.l0 k x0 x24 (wrap64 (x25 + 1))) else (if (bt x0 x25) ≥ 48 then (if (bt x0 x25) ≤ 57 then (b_name.l0 k x0 x24 (wrap64 (x25 + 1))) else (if ((bt x0 x25) = 45) then (b_name.l0 k x0 x24 (wrap64 (x25 + 1))) else (some false))) else (if ((bt x0 x25) = 45) then (b_name.l0 k x0 x24 (wrap64 (x25 + 1))) else (some false)))) else (if (bt x0 x25) ≥ 48 then (if (bt x0 x25) ≤ 57 then (b_name.l0 k x0 x24 (wrap64 (x25 + 1))) else (if ((bt x0 x25) = 45) then (b_name.l0 k x0 x24 (wrap64 (x25 + 1))) else (some false))) else (if ((bt x0 x25) = 45) then (b_name.l0 k x0 x24 (wrap64 (x25 + 1))) else (some false)))) else (none)) else (none)) else (some true)
end
def b_name.f (k : Nat) (a0 : ByteArray) : Option (Bool) := if (a0.size : Int) < 1 then (b_name.j0 k a0 true) else (if (a0.size : Int) > 16 then (b_name.j0 k a0 true) else (if 0 < (a0.size : Int) then (if (bt a0 0) < 97 then (b_name.j0 k a0 true) else (b_name.j0 k a0 (decide ((bt a0 0) > 122)))) else (none)))
theorem b_name.calls (k : Nat) (a0 : ByteArray) (r : Bool) (w : World) (h : b_name.f k a0 = some r) :
    Calls Tryz.prog 38 #[.string a0] w fun e w' => e = .returned (.bool r) ∧ Drawn0 w w' := by
  have H : (if (a0.size : Int) < 1 then (b_name.j0 k a0 true) else (if (a0.size : Int) > 16 then (b_name.j0 k a0 true) else (if 0 < (a0.size : Int) then (if (bt a0 0) < 97 then (b_name.j0 k a0 true) else (b_name.j0 k a0 (decide ((bt a0 0) > 122)))) else (none)))) = some r := h
  clear h
  have HC2 := Sd.mk H
  clear H
  go_enter Tryz.func38, Tryz.ntmps38
  go_upto_region 1 with (fail)
  go_cut [22] (fun v22 wc => ∃ (kq : Nat) (x22_1 : Bool), v22 = .bool x22_1 ∧ Sd (b_name.j0 kq a0 x22_1 = some r) ∧ Sd (kq ≤ k) ∧ Drawn0 w wc)
  case first =>
    have H := HC2.out
    clear HC2
    by_cases c3 : (a0.size : Int) < 1
    · rw [if_pos c3] at H
      have c3b0 : decide ((a0.size : Int) < 1) = true := decide_eq_true c3
      have c3b1 : decide (a0.size < 1) = true := decide_eq_true (by omega)
      clear c3
      (first | rw [c3b0] | (simp only [i64_w, i32_w]; rw [c3b0]) | skip)
      have H' := Sd.mk H
      clear H
      go_wp2
      go_meet
      case rel => exact ⟨_, (true), (by first | rfl | (simp; done) | (simp [*]; done)), H', ⟨by first | omega | exact Nat.le_refl _⟩, by repeat (first | exact Drawn0.refl _ | apply Drawn0.step)⟩
    · rw [if_neg c3] at H
      have c3b0 : decide ((a0.size : Int) < 1) = false := decide_eq_false c3
      have c3b1 : decide (a0.size < 1) = false := decide_eq_false (by omega)
      clear c3
      (first | rw [c3b0] | (simp only [i64_w, i32_w]; rw [c3b0]) | skip)
      by_cases c4 : (a0.size : Int) > 16
      · rw [if_pos c4] at H
        have c4b0 : decide (16 < (a0.size : Int)) = true := decide_eq_true c4
        have c4b1 : decide (16 < a0.size) = true := decide_eq_true (by omega)
        clear c4
        have H' := Sd.mk H
        clear H
        go_wp2
        go_meet
        case rel => exact ⟨_, (true), (by first | rfl | (simp; done) | (simp [*]; done)), H', ⟨by first | omega | exact Nat.le_refl _⟩, by repeat (first | exact Drawn0.refl _ | apply Drawn0.step)⟩
      · rw [if_neg c4] at H
        have c4b0 : decide (16 < (a0.size : Int)) = false := decide_eq_false c4
        have c4b1 : decide (16 < a0.size) = false := decide_eq_false (by omega)
        clear c4
        by_cases c5 : 0 < (a0.size : Int)
        · rw [if_pos c5] at H
          have c5b0 : decide (0 < (a0.size : Int)) = true := decide_eq_true c5
          have c5b1 : decide (0 < a0.size) = true := decide_eq_true (by omega)
          clear c5
          by_cases c7 : (bt a0 0) < 97
          · rw [if_pos c7] at H
            have c7b0 : decide ((bt a0 0) < 97) = true := decide_eq_true c7
            clear c7
            have H' := Sd.mk H
            clear H
            have p6 : 0 ≤ (0 : Int) := (by omega)
            have q6 : 0 < a0.size := (by have : (0 : Int) < (a0.size : Int) := of_decide_eq_true (by first | (with_reducible assumption) | assumption); omega)
            have hx6 : ∀ h : 0 < a0.size, ((a0[0]'h).toNat : Int) = bt a0 0 := bt_at a0 0
            clear p6
            have qi6 : (0 < (a0.size : Int)) = True := eq_true (of_decide_eq_true (by first | (with_reducible assumption) | assumption))
            replace q6 := eq_true q6
            go_wp2
            go_meet
            case rel => exact ⟨_, (true), (by first | rfl | (simp; done) | (simp [*]; done)), H', ⟨by first | omega | exact Nat.le_refl _⟩, by repeat (first | exact Drawn0.refl _ | apply Drawn0.step)⟩
          · rw [if_neg c7] at H
            have c7b0 : decide ((bt a0 0) < 97) = false := decide_eq_false c7
            clear c7
            have H' := Sd.mk H
            clear H
            have p6 : 0 ≤ (0 : Int) := (by omega)
            have q6 : 0 < a0.size := (by have : (0 : Int) < (a0.size : Int) := of_decide_eq_true (by first | (with_reducible assumption) | assumption); omega)
            have hx6 : ∀ h : 0 < a0.size, ((a0[0]'h).toNat : Int) = bt a0 0 := bt_at a0 0
            clear p6
            have qi6 : (0 < (a0.size : Int)) = True := eq_true (of_decide_eq_true (by first | (with_reducible assumption) | assumption))
            replace q6 := eq_true q6
            have p8 : 0 ≤ (0 : Int) := (by omega)
            have q8 : 0 < a0.size := (by have : (0 : Int) < (a0.size : Int) := of_decide_eq_true (by first | (with_reducible assumption) | assumption); omega)
            have hx8 : ∀ h : 0 < a0.size, ((a0[0]'h).toNat : Int) = bt a0 0 := bt_at a0 0
            clear p8
            have qi8 : (0 < (a0.size : Int)) = True := eq_true (of_decide_eq_true (by first | (with_reducible assumption) | assumption))
            replace q8 := eq_true q8
            go_wp2
            go_meet
            case rel => exact ⟨_, (decide ((bt a0 0) > 122)), (by first | rfl | (simp; done) | (simp [*]; done)), H', ⟨by first | omega | exact Nat.le_refl _⟩, by repeat (first | exact Drawn0.refl _ | apply Drawn0.step)⟩
        · rw [if_neg c5] at H
          exact absurd H (by simp)
  case rest =>
    clear HC2
    try clear p2
    try clear c3
    try clear c3b0
    try clear c3b1
    try clear c4
    try clear c4b0
    try clear c4b1
    try clear c5
    try clear c5b0
    try clear c5b1
    try clear p6
    try clear q6
    try clear hx6
    try clear qi6
    try clear c7
    try clear c7b0
    try clear p8
    try clear q8
    try clear hx8
    try clear qi8
    try clear p6
    try clear p8
    try clear q6
    try clear q8
    obtain ⟨kq, x22_1, rfl, HA, HJ1, ⟨mc1, rfl⟩⟩ := hcut
    cases kq with
    | zero => exact absurd HA.out (by simp [b_name.j0])
    | succ kj1 =>
      have H := HA.out
      clear HA
      simp only [b_name.j0] at H
      by_cases c9 : x22_1 = true
      · subst c9
        have H1 : (some false) = some r := by rw [if_pos rfl] at H; exact H
        clear H
        have H := H1
        clear H1
        obtain rfl := Option.some.inj H
        go_wp2
        go_ret
        exact ⟨by first | rfl | (simp; done) | (simp [*]; done), by repeat (first | exact Drawn0.refl _ | apply Drawn0.step)⟩
      · replace c9 := Bool.eq_false_iff.mpr c9
        subst c9
        have H1 : (b_name.l0 kj1 a0 (a0.size : Int) 0) = some r := by rw [if_neg (show ¬ (false = true) by decide)] at H; exact H
        clear H
        have H := H1
        clear H1
        have H' := Sd.mk H
        clear H
        go_wp2
        go_loopg [25] kj1 (fun kq v25 w' => ∃ (x25_2 : Int), v25 = .int .i64 x25_2 ∧ Sd (b_name.l0 kq a0 (a0.size : Int) x25_2 = some r) ∧ Sd (kq ≤ kj1) ∧ Drawn0 w w')
        case atStart => exact ⟨(0), (by first | rfl | (simp; done) | (simp [*]; done)), H', ⟨Nat.le_refl _⟩, by repeat (first | exact Drawn0.refl _ | apply Drawn0.step)⟩
        case round =>
          clear H'
          try clear c1
          try clear p2
          try clear c3
          try clear c3b0
          try clear c3b1
          try clear c4
          try clear c4b0
          try clear c4b1
          try clear c5
          try clear c5b0
          try clear c5b1
          try clear p6
          try clear q6
          try clear hx6
          try clear qi6
          try clear c7
          try clear c7b0
          try clear p8
          try clear q8
          try clear hx8
          try clear qi8
          try clear c9
          try clear p2
          try clear p6
          try clear p8
          try clear q6
          try clear q8
          obtain ⟨x25_2, rfl, HA, HK2, ⟨m2, rfl⟩⟩ := hrel
          cases gk with
          | zero => exact absurd HA.out (by simp [b_name.l0])
          | succ k2 =>
            have H := HA.out
            clear HA
            simp only [b_name.l0] at H
            by_cases c10 : x25_2 < (a0.size : Int)
            · rw [if_pos c10] at H
              have c10b0 : decide (x25_2 < (a0.size : Int)) = true := decide_eq_true c10
              clear c10
              by_cases c11 : 0 ≤ x25_2
              · rw [if_pos c11] at H
                have c11b0 : decide (0 ≤ x25_2) = true := decide_eq_true c11
                clear c11
                by_cases c12 : x25_2 < (a0.size : Int)
                · rw [if_pos c12] at H
                  have c12b0 : decide (x25_2 < (a0.size : Int)) = true := decide_eq_true c12
                  clear c12
                  by_cases c14 : (bt a0 x25_2) ≥ 97
                  · rw [if_pos c14] at H
                    have c14b0 : decide (97 ≤ (bt a0 x25_2)) = true := decide_eq_true c14
                    clear c14
                    by_cases c15 : (bt a0 x25_2) ≤ 122
                    · rw [if_pos c15] at H
                      have c15b0 : decide ((bt a0 x25_2) ≤ 122) = true := decide_eq_true c15
                      clear c15
                      have H' := Sd.mk H
                      clear H
                      have p13 : 0 ≤ (x25_2 : Int) := of_decide_eq_true (by first | (with_reducible assumption) | assumption)
                      have q13 : x25_2 < (a0.size : Int) := of_decide_eq_true (by first | (with_reducible assumption) | assumption)
                      have hx13 := bt_at a0 x25_2
                      replace p13 := eq_true p13
                      replace q13 := eq_true q13
                      go_wp2
                      go_roundg k2
                      case measure => have := HJ1.out; have := HK2.out; omega
                      case rel => exact ⟨(wrap64 (x25_2 + 1)), (by first | rfl | (simp; done) | (simp [*]; done)), H', ⟨by have := HJ1.out; have := HK2.out; omega⟩, by repeat (first | exact Drawn0.refl _ | apply Drawn0.step)⟩
                    · rw [if_neg c15] at H
                      have c15b0 : decide ((bt a0 x25_2) ≤ 122) = false := decide_eq_false c15
                      clear c15
                      by_cases c16 : (bt a0 x25_2) ≥ 48
                      · rw [if_pos c16] at H
                        have c16b0 : decide (48 ≤ (bt a0 x25_2)) = true := decide_eq_true c16
                        clear c16
                        by_cases c17 : (bt a0 x25_2) ≤ 57
                        · rw [if_pos c17] at H
                          have c17b0 : decide ((bt a0 x25_2) ≤ 57) = true := decide_eq_true c17
                          clear c17
                          have H' := Sd.mk H
                          clear H
                          have p13 : 0 ≤ (x25_2 : Int) := of_decide_eq_true (by first | (with_reducible assumption) | assumption)
                          have q13 : x25_2 < (a0.size : Int) := of_decide_eq_true (by first | (with_reducible assumption) | assumption)
                          have hx13 := bt_at a0 x25_2
                          replace p13 := eq_true p13
                          replace q13 := eq_true q13
                          go_wp2
                          go_roundg k2
                          case measure => have := HJ1.out; have := HK2.out; omega
                          case rel => exact ⟨(wrap64 (x25_2 + 1)), (by first | rfl | (simp; done) | (simp [*]; done)), H', ⟨by have := HJ1.out; have := HK2.out; omega⟩, by repeat (first | exact Drawn0.refl _ | apply Drawn0.step)⟩
                        · rw [if_neg c17] at H
                          have c17b0 : decide ((bt a0 x25_2) ≤ 57) = false := decide_eq_false c17
                          clear c17
                          by_cases c18 : ((bt a0 x25_2) = 45)
                          · rw [if_pos c18] at H
                            have c18b0 : ((bt a0 x25_2) == 45) = true := beq_iff_eq.mpr c18
                            have c18b1 : ((bt a0 x25_2) != 45) = false := bne_eq_false_iff_eq.mpr c18
                            clear c18
                            have H' := Sd.mk H
                            clear H
                            have p13 : 0 ≤ (x25_2 : Int) := of_decide_eq_true (by first | (with_reducible assumption) | assumption)
                            have q13 : x25_2 < (a0.size : Int) := of_decide_eq_true (by first | (with_reducible assumption) | assumption)
                            have hx13 := bt_at a0 x25_2
                            replace p13 := eq_true p13
                            replace q13 := eq_true q13
                            go_wp2
                            go_roundg k2
                            case measure => have := HJ1.out; have := HK2.out; omega
                            case rel => exact ⟨(wrap64 (x25_2 + 1)), (by first | rfl | (simp; done) | (simp [*]; done)), H', ⟨by have := HJ1.out; have := HK2.out; omega⟩, by repeat (first | exact Drawn0.refl _ | apply Drawn0.step)⟩
                          · rw [if_neg c18] at H
                            have c18b0 : ((bt a0 x25_2) == 45) = false := beq_eq_false_iff_ne.mpr c18
                            have c18b1 : ((bt a0 x25_2) != 45) = true := bne_iff_ne.mpr c18
                            obtain rfl := Option.some.inj H
                            have p13 : 0 ≤ (x25_2 : Int) := of_decide_eq_true (by first | (with_reducible assumption) | assumption)
                            have q13 : x25_2 < (a0.size : Int) := of_decide_eq_true (by first | (with_reducible assumption) | assumption)
                            have hx13 := bt_at a0 x25_2
                            replace p13 := eq_true p13
                            replace q13 := eq_true q13
                            go_wp2
                            go_ret
                            exact ⟨by first | rfl | (simp; done) | (simp [*]; done), by repeat (first | exact Drawn0.refl _ | apply Drawn0.step)⟩
                      · rw [if_neg c16] at H
                        have c16b0 : decide (48 ≤ (bt a0 x25_2)) = false := decide_eq_false c16
                        clear c16
                        by_cases c19 : ((bt a0 x25_2) = 45)
                        · rw [if_pos c19] at H
                          have c19b0 : ((bt a0 x25_2) == 45) = true := beq_iff_eq.mpr c19
                          have c19b1 : ((bt a0 x25_2) != 45) = false := bne_eq_false_iff_eq.mpr c19
                          clear c19
                          have H' := Sd.mk H
                          clear H
                          have p13 : 0 ≤ (x25_2 : Int) := of_decide_eq_true (by first | (with_reducible assumption) | assumption)
                          have q13 : x25_2 < (a0.size : Int) := of_decide_eq_true (by first | (with_reducible assumption) | assumption)
                          have hx13 := bt_at a0 x25_2
                          replace p13 := eq_true p13
                          replace q13 := eq_true q13
                          go_wp2
                          go_roundg k2
                          case measure => have := HJ1.out; have := HK2.out; omega
                          case rel => exact ⟨(wrap64 (x25_2 + 1)), (by first | rfl | (simp; done) | (simp [*]; done)), H', ⟨by have := HJ1.out; have := HK2.out; omega⟩, by repeat (first | exact Drawn0.refl _ | apply Drawn0.step)⟩
                        · rw [if_neg c19] at H
                          have c19b0 : ((bt a0 x25_2) == 45) = false := beq_eq_false_iff_ne.mpr c19
                          have c19b1 : ((bt a0 x25_2) != 45) = true := bne_iff_ne.mpr c19
                          obtain rfl := Option.some.inj H
                          have p13 : 0 ≤ (x25_2 : Int) := of_decide_eq_true (by first | (with_reducible assumption) | assumption)
                          have q13 : x25_2 < (a0.size : Int) := of_decide_eq_true (by first | (with_reducible assumption) | assumption)
                          have hx13 := bt_at a0 x25_2
                          replace p13 := eq_true p13
                          replace q13 := eq_true q13
                          go_wp2
                          go_ret
                          exact ⟨by first | rfl | (simp; done) | (simp [*]; done), by repeat (first | exact Drawn0.refl _ | apply Drawn0.step)⟩
                  · rw [if_neg c14] at H
                    have c14b0 : decide (97 ≤ (bt a0 x25_2)) = false := decide_eq_false c14
                    clear c14
                    by_cases c20 : (bt a0 x25_2) ≥ 48
                    · rw [if_pos c20] at H
                      have c20b0 : decide (48 ≤ (bt a0 x25_2)) = true := decide_eq_true c20
                      clear c20
                      by_cases c21 : (bt a0 x25_2) ≤ 57
                      · rw [if_pos c21] at H
                        have c21b0 : decide ((bt a0 x25_2) ≤ 57) = true := decide_eq_true c21
                        clear c21
                        have H' := Sd.mk H
                        clear H
                        have p13 : 0 ≤ (x25_2 : Int) := of_decide_eq_true (by first | (with_reducible assumption) | assumption)
                        have q13 : x25_2 < (a0.size : Int) := of_decide_eq_true (by first | (with_reducible assumption) | assumption)
                        have hx13 := bt_at a0 x25_2
                        replace p13 := eq_true p13
                        replace q13 := eq_true q13
                        go_wp2
                        go_roundg k2
                        case measure => have := HJ1.out; have := HK2.out; omega
                        case rel => exact ⟨(wrap64 (x25_2 + 1)), (by first | rfl | (simp; done) | (simp [*]; done)), H', ⟨by have := HJ1.out; have := HK2.out; omega⟩, by repeat (first | exact Drawn0.refl _ | apply Drawn0.step)⟩
                      · rw [if_neg c21] at H
                        have c21b0 : decide ((bt a0 x25_2) ≤ 57) = false := decide_eq_false c21
                        clear c21
                        by_cases c22 : ((bt a0 x25_2) = 45)
                        · rw [if_pos c22] at H
                          have c22b0 : ((bt a0 x25_2) == 45) = true := beq_iff_eq.mpr c22
                          have c22b1 : ((bt a0 x25_2) != 45) = false := bne_eq_false_iff_eq.mpr c22
                          clear c22
                          have H' := Sd.mk H
                          clear H
                          have p13 : 0 ≤ (x25_2 : Int) := of_decide_eq_true (by first | (with_reducible assumption) | assumption)
                          have q13 : x25_2 < (a0.size : Int) := of_decide_eq_true (by first | (with_reducible assumption) | assumption)
                          have hx13 := bt_at a0 x25_2
                          replace p13 := eq_true p13
                          replace q13 := eq_true q13
                          go_wp2
                          go_roundg k2
                          case measure => have := HJ1.out; have := HK2.out; omega
                          case rel => exact ⟨(wrap64 (x25_2 + 1)), (by first | rfl | (simp; done) | (simp [*]; done)), H', ⟨by have := HJ1.out; have := HK2.out; omega⟩, by repeat (first | exact Drawn0.refl _ | apply Drawn0.step)⟩
                        · rw [if_neg c22] at H
                          have c22b0 : ((bt a0 x25_2) == 45) = false := beq_eq_false_iff_ne.mpr c22
                          have c22b1 : ((bt a0 x25_2) != 45) = true := bne_iff_ne.mpr c22
                          obtain rfl := Option.some.inj H
                          have p13 : 0 ≤ (x25_2 : Int) := of_decide_eq_true (by first | (with_reducible assumption) | assumption)
                          have q13 : x25_2 < (a0.size : Int) := of_decide_eq_true (by first | (with_reducible assumption) | assumption)
                          have hx13 := bt_at a0 x25_2
                          replace p13 := eq_true p13
                          replace q13 := eq_true q13
                          go_wp2
                          go_ret
                          exact ⟨by first | rfl | (simp; done) | (simp [*]; done), by repeat (first | exact Drawn0.refl _ | apply Drawn0.step)⟩
                    · rw [if_neg c20] at H
                      have c20b0 : decide (48 ≤ (bt a0 x25_2)) = false := decide_eq_false c20
                      clear c20
                      by_cases c23 : ((bt a0 x25_2) = 45)
                      · rw [if_pos c23] at H
                        have c23b0 : ((bt a0 x25_2) == 45) = true := beq_iff_eq.mpr c23
                        have c23b1 : ((bt a0 x25_2) != 45) = false := bne_eq_false_iff_eq.mpr c23
                        clear c23
                        have H' := Sd.mk H
                        clear H
                        have p13 : 0 ≤ (x25_2 : Int) := of_decide_eq_true (by first | (with_reducible assumption) | assumption)
                        have q13 : x25_2 < (a0.size : Int) := of_decide_eq_true (by first | (with_reducible assumption) | assumption)
                        have hx13 := bt_at a0 x25_2
                        replace p13 := eq_true p13
                        replace q13 := eq_true q13
                        go_wp2
                        go_roundg k2
                        case measure => have := HJ1.out; have := HK2.out; omega
                        case rel => exact ⟨(wrap64 (x25_2 + 1)), (by first | rfl | (simp; done) | (simp [*]; done)), H', ⟨by have := HJ1.out; have := HK2.out; omega⟩, by repeat (first | exact Drawn0.refl _ | apply Drawn0.step)⟩
                      · rw [if_neg c23] at H
                        have c23b0 : ((bt a0 x25_2) == 45) = false := beq_eq_false_iff_ne.mpr c23
                        have c23b1 : ((bt a0 x25_2) != 45) = true := bne_iff_ne.mpr c23
                        obtain rfl := Option.some.inj H
                        have p13 : 0 ≤ (x25_2 : Int) := of_decide_eq_true (by first | (with_reducible assumption) | assumption)
                        have q13 : x25_2 < (a0.size : Int) := of_decide_eq_true (by first | (with_reducible assumption) | assumption)
                        have hx13 := bt_at a0 x25_2
                        replace p13 := eq_true p13
                        replace q13 := eq_true q13
                        go_wp2
                        go_ret
                        exact ⟨by first | rfl | (simp; done) | (simp [*]; done), by repeat (first | exact Drawn0.refl _ | apply Drawn0.step)⟩
                · rw [if_neg c12] at H
                  exact absurd H (by simp)
              · rw [if_neg c11] at H
                exact absurd H (by simp)
            · rw [if_neg c10] at H
              have c10b0 : decide (x25_2 < (a0.size : Int)) = false := decide_eq_false c10
              clear c10
              obtain rfl := Option.some.inj H
              go_wp2
              go_ret
              exact ⟨by first | rfl | (simp; done) | (simp [*]; done), by repeat (first | exact Drawn0.refl _ | apply Drawn0.step)⟩
end
end Go.Proofs.YtnmdojgfedddbaaGreatDoor.PB
namespace Go.Proofs.YtnmdojgfedddbaaGreatDoor.PB
open Go.RowKit Go.Proofs.YtnmdojgfedddbaaGreatDoorW.PrintWords Go.Proofs.YtnmdojgfedddbaaGreatDoorW.PrintLast Go.Proofs.YtnmdojgfedddbaaGreatDoorW.PrintMore
def Ev {α : Type} (f : Nat → Option α) (v : α) : Prop := ∃ K, ∀ k, K ≤ k → f k = some v
namespace Ev
variable {α β : Type} {v u : α} {b : β}
theorem const (v : α) : Ev (fun _ => some v) v := ⟨0, fun _ _ => rfl⟩
theorem bind {f : Nat → Option α} {g : Nat → α → Option β} (h : Ev f v) (h' : Ev (fun k => g k v) b) : Ev (fun k => (f k).bind (g k)) b := by
  obtain ⟨K, h⟩ := h
  obtain ⟨K', h'⟩ := h'
  exact ⟨max K K', fun k hk => by show (f k).bind (g k) = some b; rw [h k (by omega)]; exact h' k (by omega)⟩
theorem step {f : Nat → Option α} (h : Ev (fun k => f (k + 1)) v) : Ev f v := by
  obtain ⟨K, h⟩ := h
  exact ⟨K + 1, fun k hk => by cases k with | zero => omega | succ k => exact h k (by omega)⟩
end Ev
theorem wrap_succ {i : Int} (h0 : 0 ≤ i) (h : i ≤ 1000000000) : wrap64 (i + 1) = i + 1 := wrap_id (by omega) (by omega)
def charB (c : Int) : Bool := decide (97 ≤ c ∧ c ≤ 122) || decide (48 ≤ c ∧ c ≤ 57) || decide (c = 45)
def nameFrom (x : ByteArray) : Nat → Int → Bool
  | 0, _ => true
  | m + 1, i => charB (bt x i) && nameFrom x m (i + 1)
def nameOk (x : ByteArray) : Bool := decide (1 ≤ x.size) && decide (x.size ≤ 16) && decide (97 ≤ bt x 0) && decide (bt x 0 ≤ 122) && nameFrom x x.size 0
end Go.Proofs.YtnmdojgfedddbaaGreatDoor.PB

namespace Go.Proofs.YtnmdojgfedddbaaGreatDoor.PB
open Go.RowKit Go.Proofs.YtnmdojgfedddbaaGreatDoorW.PrintWords Go.Proofs.YtnmdojgfedddbaaGreatDoorW.PrintLast Go.Proofs.YtnmdojgfedddbaaGreatDoorW.PrintMore
section
def slices_Index_string_string.l0 : Nat → List ByteArray → ByteArray → Int → Int → Option (Int)
  | 0, _, _, _, _ => none
  | k + 1, x0, x1, x7, x8 => if x8 < x7 then (if 0 ≤ x8 then (if x8 < (x0.length : Int) then (if x1.toList = (rdOf ByteArray.empty x0 x8).toList then (some x8) else (slices_Index_string_string.l0 k x0 x1 x7 (wrap64 (x8 + 1)))) else (none)) else (none)) else (some (-1))
def slices_Index_string_string.f (k : Nat) (l0 : List ByteArray) (a1 : ByteArray) : Option (Int) := slices_Index_string_string.l0 k l0 a1 (l0.length : Int) 0
theorem slices_Index_string_string.calls (k : Nat) (A0 : Option Addr) (c0 : Nat) (l0 : List ByteArray) (a1 : ByteArray) (r : Int) (w : World) (hr0 : Kd.C Kd.string w A0 l0.length l0) (hc0 : l0.length ≤ c0) (h : slices_Index_string_string.f k l0 a1 = some r) :
    Calls Tryz.prog 81 #[.slice A0 l0.length c0, .string a1] w fun e w' => e = .returned (.int .i64 r) ∧ Drawn0 w w' := by
  have HR0 := Sd.mk hr0
  have HC0 := Sd.mk hc0
  clear hr0 hc0
  have H : (slices_Index_string_string.l0 k l0 a1 (l0.length : Int) 0) = some r := h
  clear h
  have H' := Sd.mk H
  clear H
  go_enter Tryz.func81, Tryz.ntmps81
  go_wp2
  go_loopg [8] k (fun kq v8 w' => ∃ (x8_1 : Int), v8 = .int .i64 x8_1 ∧ Sd (slices_Index_string_string.l0 kq l0 a1 (l0.length : Int) x8_1 = some r) ∧ Sd (kq ≤ k) ∧ Drawn0 w w')
  case atStart => exact ⟨(0), (by first | rfl | (simp; done) | (simp [*]; done)), H', ⟨Nat.le_refl _⟩, by repeat (first | exact Drawn0.refl _ | apply Drawn0.step)⟩
  case round =>
    clear H'
    try clear p2
    obtain ⟨x8_1, rfl, HA, HK1, ⟨m1, rfl⟩⟩ := hrel
    cases gk with
    | zero => exact absurd HA.out (by simp [slices_Index_string_string.l0])
    | succ k1 =>
      have H := HA.out
      clear HA
      simp only [slices_Index_string_string.l0] at H
      by_cases c3 : x8_1 < (l0.length : Int)
      · rw [if_pos c3] at H
        have c3b0 : decide (x8_1 < (l0.length : Int)) = true := decide_eq_true c3
        clear c3
        by_cases c4 : 0 ≤ x8_1
        · rw [if_pos c4] at H
          have c4b0 : decide (0 ≤ x8_1) = true := decide_eq_true c4
          clear c4
          by_cases c5 : x8_1 < (l0.length : Int)
          · rw [if_pos c5] at H
            have c5b0 : decide (x8_1 < (l0.length : Int)) = true := decide_eq_true c5
            clear c5
            by_cases c6 : a1.toList = (rdOf ByteArray.empty l0 x8_1).toList
            · rw [if_pos c6] at H
              have c6b0 : (a1.toList == (rdOf ByteArray.empty l0 x8_1).toList) = true := beq_iff_eq.mpr c6
              have c6b1 : (a1.toList != (rdOf ByteArray.empty l0 x8_1).toList) = false := bne_eq_false_iff_eq.mpr c6
              clear c6
              obtain rfl := Option.some.inj H
              have p117 : 0 ≤ (x8_1 : Int) := of_decide_eq_true (by first | (with_reducible assumption) | assumption)
              have q117 : x8_1 < (l0.length : Int) := of_decide_eq_true (by first | (with_reducible assumption) | assumption)
              obtain ⟨ad117, e117, hx117_0⟩ := Kd.at_string HR0.out x8_1 p117 q117
              cases e117
              replace p117 := eq_true p117
              replace q117 := eq_true q117
              go_wp2
              go_ret
              exact ⟨by first | rfl | (simp; done) | (simp [*]; done), by repeat (first | exact Drawn0.refl _ | apply Drawn0.step)⟩
            · rw [if_neg c6] at H
              have c6b0 : (a1.toList == (rdOf ByteArray.empty l0 x8_1).toList) = false := beq_eq_false_iff_ne.mpr c6
              have c6b1 : (a1.toList != (rdOf ByteArray.empty l0 x8_1).toList) = true := bne_iff_ne.mpr c6
              have H' := Sd.mk H
              clear H
              have p117 : 0 ≤ (x8_1 : Int) := of_decide_eq_true (by first | (with_reducible assumption) | assumption)
              have q117 : x8_1 < (l0.length : Int) := of_decide_eq_true (by first | (with_reducible assumption) | assumption)
              obtain ⟨ad117, e117, hx117_0⟩ := Kd.at_string HR0.out x8_1 p117 q117
              cases e117
              replace p117 := eq_true p117
              replace q117 := eq_true q117
              go_wp2
              go_roundg k1
              case measure => have := HK1.out; omega
              case rel => exact ⟨(wrap64 (x8_1 + 1)), (by first | rfl | (simp; done) | (simp [*]; done)), H', ⟨by have := HK1.out; omega⟩, by repeat (first | exact Drawn0.refl _ | apply Drawn0.step)⟩
          · rw [if_neg c5] at H
            exact absurd H (by simp)
        · rw [if_neg c4] at H
          exact absurd H (by simp)
      · rw [if_neg c3] at H
        have c3b0 : decide (x8_1 < (l0.length : Int)) = false := decide_eq_false c3
        clear c3
        obtain rfl := Option.some.inj H
        go_wp2
        go_ret
        exact ⟨by first | rfl | (simp; done) | (simp [*]; done), by repeat (first | exact Drawn0.refl _ | apply Drawn0.step)⟩
end
section
end
section
end
section
def slices_Contains_string_string.f (k : Nat) (l0 : List ByteArray) (a1 : ByteArray) : Option (Bool) := (slices_Index_string_string.f k l0 a1).bind fun t118 => (some (decide (t118 ≥ 0)))
theorem slices_Contains_string_string.calls (k : Nat) (A0 : Option Addr) (c0 : Nat) (l0 : List ByteArray) (a1 : ByteArray) (r : Bool) (w : World) (hr0 : Kd.C Kd.string w A0 l0.length l0) (hc0 : l0.length ≤ c0) (h : slices_Contains_string_string.f k l0 a1 = some r) :
    Calls Tryz.prog 80 #[.slice A0 l0.length c0, .string a1] w fun e w' => e = .returned (.bool r) ∧ Drawn0 w w' := by
  have HR0 := Sd.mk hr0
  have HC0 := Sd.mk hc0
  clear hr0 hc0
  have H : ((slices_Index_string_string.f k l0 a1).bind fun t118 => (some (decide (t118 ≥ 0)))) = some r := h
  clear h
  replace H := Option.bind_eq_some_iff.mp H
  obtain ⟨t118, A30, H⟩ := H
  replace H : (some (decide (t118 ≥ 0))) = some r := H
  have A3 := Sd.mk A30
  clear A30
  obtain rfl := Option.some.inj H
  go_enter Tryz.func80, Tryz.ntmps80
  go_wp2_with (first | ((with_reducible refine gate_callee (f := 81) rfl ?_); refine goesL_ (some 7) rfl rfl Tryz.func81 (by kernel_rfl) rfl #[.slice A0 l0.length c0, .string a1] rfl (by (try simp only [List.map_toArray, List.map_cons, List.map_nil]); first | done | rfl | (simp only [List.length_drop, List.length_take]; rfl)) ?_; (with_reducible refine (slices_Index_string_string.calls k _ _ l0 a1 t118 _ ?side1 ?side2 A3.out).mono ?_); (case side1 => repeat (first | exact HR0.out | (with_reducible refine Kd.C_alloc ?_ _) | (with_reducible refine Kd.C_drewN ?_ _) | (with_reducible refine Kd.C_drew ?_))); (case side2 => exact HC0.out); rintro e w' ⟨rfl, ⟨nd, rfl⟩⟩; refine ⟨_, rfl, ?_⟩))
  go_ret
  exact ⟨by first | rfl | (simp; done) | (simp [*]; done), by repeat (first | exact Drawn0.refl _ | apply Drawn0.step)⟩
end
section
def b_within.f (a0 : Int) (a1 : Int) (a2 : Int) : Option (Bool) := if a0 ≥ a1 then (some (decide (a0 ≤ a2))) else (some false)
theorem b_within.calls (a0 : Int) (a1 : Int) (a2 : Int) (r : Bool) (w : World) (h : b_within.f a0 a1 a2 = some r) :
    Calls Tryz.prog 26 #[.int .i64 a0, .int .i64 a1, .int .i64 a2] w fun e w' => e = .returned (.bool r) ∧ Drawn0 w w' := by
  have H : (if a0 ≥ a1 then (some (decide (a0 ≤ a2))) else (some false)) = some r := h
  clear h
  by_cases c4 : a0 ≥ a1
  · rw [if_pos c4] at H
    have c4b0 : decide (a1 ≤ a0) = true := decide_eq_true c4
    clear c4
    obtain rfl := Option.some.inj H
    go_enter Tryz.func26, Tryz.ntmps26
    go_wp2
    go_ret
    exact ⟨by first | rfl | (simp; done) | (simp [*]; done), by repeat (first | exact Drawn0.refl _ | apply Drawn0.step)⟩
  · rw [if_neg c4] at H
    have c4b0 : decide (a1 ≤ a0) = false := decide_eq_false c4
    clear c4
    obtain rfl := Option.some.inj H
    go_enter Tryz.func26, Tryz.ntmps26
    go_wp2
    go_ret
    exact ⟨by first | rfl | (simp; done) | (simp [*]; done), by repeat (first | exact Drawn0.refl _ | apply Drawn0.step)⟩
end
section
def b_span.f (a0_0 : Int) (a0_1 : Int) (a1 : Int) (a2 : Int) : Option (Bool) := if a0_0 ≥ a1 then (if a0_0 ≤ a0_1 then (some (decide (a0_1 ≤ a2))) else (some false)) else (some false)
theorem b_span.calls (a0_0 : Int) (a0_1 : Int) (a1 : Int) (a2 : Int) (r : Bool) (w : World) (h : b_span.f a0_0 a0_1 a1 a2 = some r) :
    Calls Tryz.prog 37 #[.agg #[.int .i64 a0_0, .int .i64 a0_1], .int .i64 a1, .int .i64 a2] w fun e w' => e = .returned (.bool r) ∧ Below w.heap.size w w' := by
  have hu27 := Tryz.underlying27
  have HB := Sd.mk (Below.refl w.heap.size w)
  have H : (if a0_0 ≥ a1 then (if a0_0 ≤ a0_1 then (some (decide (a0_1 ≤ a2))) else (some false)) else (some false)) = some r := h
  clear h
  by_cases c4 : a0_0 ≥ a1
  · rw [if_pos c4] at H
    have c4b0 : decide (a1 ≤ a0_0) = true := decide_eq_true c4
    clear c4
    by_cases c5 : a0_0 ≤ a0_1
    · rw [if_pos c5] at H
      have c5b0 : decide (a0_0 ≤ a0_1) = true := decide_eq_true c5
      clear c5
      obtain rfl := Option.some.inj H
      go_enter Tryz.func37, Tryz.ntmps37
      go_wp2_with (first | ((with_reducible refine gate_dst (N := 3) rfl ?_); refine box_event ?hg (N := 3) ?hd (cs := #[.int .i64 a0_0, .int .i64 a0_1]) (t := 27) ?hr ?_; (case hd => rfl); (case hg => rfl); (case hr => first | (go_simp; done) | (go_simp; rfl)); intro gb124 hg w6 hbox hb; have n0_ := Sd.mk (below_step (by repeat (first | (with_reducible first | exact HB.out | apply below_alloc | apply pw_below_drewN | apply below_drew1) | exact HB.out)) hb); have n1_ := Sd.mk (hbox); have n2_ := Sd.mk ((by rw [hg]; exact (below_size (by repeat (first | (with_reducible first | exact HB.out | apply below_alloc | apply pw_below_drewN | apply below_drew1) | exact HB.out))) : w.heap.size ≤ gb124)); have n3_ := Sd.mk ((by rw [hg]; exact (below_size (by repeat (first | (with_reducible first | exact HB.out | apply below_alloc | apply pw_below_drewN | apply below_drew1) | exact HB.out))) : w.heap.size ≤ gb124)); clear HB; have HB := n0_; have BK124 := n1_; have GW124 := n2_; have GE124 := n3_; clear n0_ n1_ n2_ n3_; clear hb hbox hg; have hcz7_0 : w6.cell? ⟨gb124, 0, none⟩ = some (.int .i64 a0_0) := (blk_cell BK124.out 0).trans rfl; have hcz7_1 : w6.cell? ⟨gb124, 1, none⟩ = some (.int .i64 a0_1) := (blk_cell BK124.out 1).trans rfl; have hfz7_0 := blk_frozen BK124.out 0; have hfz7_1 := blk_frozen BK124.out 1))
      go_ret
      exact ⟨by first | rfl | (simp [errW_none, errW_some] <;> rfl) | (simp [*, errW_none, errW_some] <;> rfl), by repeat (first | (with_reducible first | exact HB.out | apply below_alloc | apply pw_below_drewN | apply below_drew1 | refine below_set ?_ GE124.out) | exact HB.out)⟩
    · rw [if_neg c5] at H
      have c5b0 : decide (a0_0 ≤ a0_1) = false := decide_eq_false c5
      clear c5
      obtain rfl := Option.some.inj H
      go_enter Tryz.func37, Tryz.ntmps37
      go_wp2_with (first | ((with_reducible refine gate_dst (N := 3) rfl ?_); refine box_event ?hg (N := 3) ?hd (cs := #[.int .i64 a0_0, .int .i64 a0_1]) (t := 27) ?hr ?_; (case hd => rfl); (case hg => rfl); (case hr => first | (go_simp; done) | (go_simp; rfl)); intro gb124 hg w8 hbox hb; have n0_ := Sd.mk (below_step (by repeat (first | (with_reducible first | exact HB.out | apply below_alloc | apply pw_below_drewN | apply below_drew1) | exact HB.out)) hb); have n1_ := Sd.mk (hbox); have n2_ := Sd.mk ((by rw [hg]; exact (below_size (by repeat (first | (with_reducible first | exact HB.out | apply below_alloc | apply pw_below_drewN | apply below_drew1) | exact HB.out))) : w.heap.size ≤ gb124)); have n3_ := Sd.mk ((by rw [hg]; exact (below_size (by repeat (first | (with_reducible first | exact HB.out | apply below_alloc | apply pw_below_drewN | apply below_drew1) | exact HB.out))) : w.heap.size ≤ gb124)); clear HB; have HB := n0_; have BK124 := n1_; have GW124 := n2_; have GE124 := n3_; clear n0_ n1_ n2_ n3_; clear hb hbox hg; have hcz9_0 : w8.cell? ⟨gb124, 0, none⟩ = some (.int .i64 a0_0) := (blk_cell BK124.out 0).trans rfl; have hcz9_1 : w8.cell? ⟨gb124, 1, none⟩ = some (.int .i64 a0_1) := (blk_cell BK124.out 1).trans rfl; have hfz9_0 := blk_frozen BK124.out 0; have hfz9_1 := blk_frozen BK124.out 1))
      go_ret
      exact ⟨by first | rfl | (simp [errW_none, errW_some] <;> rfl) | (simp [*, errW_none, errW_some] <;> rfl), by repeat (first | (with_reducible first | exact HB.out | apply below_alloc | apply pw_below_drewN | apply below_drew1 | refine below_set ?_ GE124.out) | exact HB.out)⟩
  · rw [if_neg c4] at H
    have c4b0 : decide (a1 ≤ a0_0) = false := decide_eq_false c4
    clear c4
    obtain rfl := Option.some.inj H
    go_enter Tryz.func37, Tryz.ntmps37
    go_wp2_with (first | ((with_reducible refine gate_dst (N := 3) rfl ?_); refine box_event ?hg (N := 3) ?hd (cs := #[.int .i64 a0_0, .int .i64 a0_1]) (t := 27) ?hr ?_; (case hd => rfl); (case hg => rfl); (case hr => first | (go_simp; done) | (go_simp; rfl)); intro gb124 hg w10 hbox hb; have n0_ := Sd.mk (below_step (by repeat (first | (with_reducible first | exact HB.out | apply below_alloc | apply pw_below_drewN | apply below_drew1) | exact HB.out)) hb); have n1_ := Sd.mk (hbox); have n2_ := Sd.mk ((by rw [hg]; exact (below_size (by repeat (first | (with_reducible first | exact HB.out | apply below_alloc | apply pw_below_drewN | apply below_drew1) | exact HB.out))) : w.heap.size ≤ gb124)); have n3_ := Sd.mk ((by rw [hg]; exact (below_size (by repeat (first | (with_reducible first | exact HB.out | apply below_alloc | apply pw_below_drewN | apply below_drew1) | exact HB.out))) : w.heap.size ≤ gb124)); clear HB; have HB := n0_; have BK124 := n1_; have GW124 := n2_; have GE124 := n3_; clear n0_ n1_ n2_ n3_; clear hb hbox hg; have hcz11_0 : w10.cell? ⟨gb124, 0, none⟩ = some (.int .i64 a0_0) := (blk_cell BK124.out 0).trans rfl; have hcz11_1 : w10.cell? ⟨gb124, 1, none⟩ = some (.int .i64 a0_1) := (blk_cell BK124.out 1).trans rfl; have hfz11_0 := blk_frozen BK124.out 0; have hfz11_1 := blk_frozen BK124.out 1))
    go_ret
    exact ⟨by first | rfl | (simp [errW_none, errW_some] <;> rfl) | (simp [*, errW_none, errW_some] <;> rfl), by repeat (first | (with_reducible first | exact HB.out | apply below_alloc | apply pw_below_drewN | apply below_drew1 | refine below_set ?_ GE124.out) | exact HB.out)⟩
end
section
def outside (lo hi x : Int) : Bool := !(decide (lo ≤ x) && decide (x ≤ hi))
theorem within_f (a lo hi : Int) : b_within.f a lo hi = some (decide (lo ≤ a) && decide (a ≤ hi)) := by
  unfold b_within.f
  by_cases h : lo ≤ a <;> simp [h]
theorem span_f (a b lo hi : Int) : b_span.f a b lo hi = some (decide (lo ≤ a) && decide (a ≤ b) && decide (b ≤ hi)) := by
  unfold b_span.f
  by_cases h : lo ≤ a <;> by_cases h' : a ≤ b <;> simp [h, h']
theorem tells_coefs (x : Int) (w : World) : Tells 90 #[] (.int .i64 x) (outside (-10000) 10000 x) w := by
  intro W _
  have H := Sd.mk (b_within.calls x (-10000) 10000 _ W (within_f _ _ _))
  show Calls Tryz.prog 90 #[.int .i64 x] W _
  unfold outside
  go_enter Tryz.func90, Tryz.ntmps90
  go_wp2_with (go_at_call 26; refine H.out.mono ?_; rintro e w1 ⟨rfl, hb⟩)
  go_ret
  exact ⟨by first | rfl | simp [Bool.not_and], Drawn0.below hb⟩
def x_coefs.f (l : List Int) : Option Bool := some (l.any (outside (-10000) 10000))
theorem x_coefs.calls (A0 : Option Addr) (c0 : Nat) (l0 : List Int) (r : Bool) (w : World) (hr0 : Kd.C (Kd.int .i64) w A0 l0.length l0) (hc0 : l0.length ≤ c0) (h : x_coefs.f l0 = some r) :
    Calls Tryz.prog 27 #[.slice A0 l0.length c0, .func (.func 90) #[] #[]] w fun e w' => e = .returned (.bool r) ∧ Below w.heap.size w w' := by
  obtain rfl := Option.some.inj h
  exact containsFunc_int _ 90 #[] (enters_of Tryz.func90 (by kernel_rfl) rfl) A0 c0 l0 w hr0 (fun x _ => tells_coefs x w)
theorem tells_kilos (x : Int) (w : World) : Tells 105 #[] (.int .i64 x) (outside (0) 10000 x) w := by
  intro W _
  have H := Sd.mk (b_within.calls x (0) 10000 _ W (within_f _ _ _))
  show Calls Tryz.prog 105 #[.int .i64 x] W _
  unfold outside
  go_enter Tryz.func105, Tryz.ntmps105
  go_wp2_with (go_at_call 26; refine H.out.mono ?_; rintro e w1 ⟨rfl, hb⟩)
  go_ret
  exact ⟨by first | rfl | simp [Bool.not_and], Drawn0.below hb⟩
def x_kilos.f (l : List Int) : Option Bool := some (l.any (outside (0) 10000))
theorem x_kilos.calls (A0 : Option Addr) (c0 : Nat) (l0 : List Int) (r : Bool) (w : World) (hr0 : Kd.C (Kd.int .i64) w A0 l0.length l0) (hc0 : l0.length ≤ c0) (h : x_kilos.f l0 = some r) :
    Calls Tryz.prog 27 #[.slice A0 l0.length c0, .func (.func 105) #[] #[]] w fun e w' => e = .returned (.bool r) ∧ Below w.heap.size w w' := by
  obtain rfl := Option.some.inj h
  exact containsFunc_int _ 105 #[] (enters_of Tryz.func105 (by kernel_rfl) rfl) A0 c0 l0 w hr0 (fun x _ => tells_kilos x w)
theorem tells_weights (x : Int) (w : World) : Tells 28 #[] (.int .i64 x) (outside (0) 1000 x) w := by
  intro W _
  have H := Sd.mk (b_within.calls x (0) 1000 _ W (within_f _ _ _))
  show Calls Tryz.prog 28 #[.int .i64 x] W _
  unfold outside
  go_enter Tryz.func28, Tryz.ntmps28
  go_wp2_with (go_at_call 26; refine H.out.mono ?_; rintro e w1 ⟨rfl, hb⟩)
  go_ret
  exact ⟨by first | rfl | simp [Bool.not_and], Drawn0.below hb⟩
def x_weights.f (l : List Int) : Option Bool := some (l.any (outside (0) 1000))
theorem x_weights.calls (A0 : Option Addr) (c0 : Nat) (l0 : List Int) (r : Bool) (w : World) (hr0 : Kd.C (Kd.int .i64) w A0 l0.length l0) (hc0 : l0.length ≤ c0) (h : x_weights.f l0 = some r) :
    Calls Tryz.prog 27 #[.slice A0 l0.length c0, .func (.func 28) #[] #[]] w fun e w' => e = .returned (.bool r) ∧ Below w.heap.size w w' := by
  obtain rfl := Option.some.inj h
  exact containsFunc_int _ 28 #[] (enters_of Tryz.func28 (by kernel_rfl) rfl) A0 c0 l0 w hr0 (fun x _ => tells_weights x w)
def badSpan (s : S27) : Bool := !(decide (0 ≤ s.f0) && decide (s.f0 ≤ s.f1) && decide (s.f1 ≤ 1000))
theorem tells_spans (x : S27) (w : World) : Tells 36 #[] (.agg #[.int .i64 x.f0, .int .i64 x.f1]) (badSpan x) w := by
  intro W _
  have H := fun W => b_span.calls x.f0 x.f1 0 1000 _ W (span_f _ _ _ _)
  have H' := Sd.mk H
  clear H
  show Calls Tryz.prog 36 #[.agg #[.int .i64 x.f0, .int .i64 x.f1]] W _
  unfold badSpan
  generalize x.f0 = a at *
  generalize x.f1 = b at *
  go_enter Tryz.func36, Tryz.ntmps36
  go_wp2_with (go_at_call 37; refine (H'.out _).mono ?_; rintro e w1 ⟨rfl, hb⟩)
  go_ret
  exact ⟨by first | rfl | simp [Bool.not_and], below_trans' (below_alloc (Below.refl _ _) _) hb⟩
def x_spans.f (l : List S27) : Option Bool := some (l.any badSpan)
theorem x_spans.calls (A0 : Option Addr) (c0 : Nat) (l0 : List S27) (r : Bool) (w : World) (hr0 : Kd.C k27 w A0 l0.length l0) (hc0 : l0.length ≤ c0) (h : x_spans.f l0 = some r) :
    Calls Tryz.prog 35 #[.slice A0 l0.length c0, .func (.func 36) #[] #[]] w fun e w' => e = .returned (.bool r) ∧ Below w.heap.size w w' := by
  obtain rfl := Option.some.inj h
  exact containsFunc_span _ 36 #[] (enters_of Tryz.func36 (by kernel_rfl) rfl) A0 c0 l0 w hr0 (fun x _ => tells_spans x w)
end
section
end
section
end
section
end
section
end
section
def b_checkOxides.l0 : Nat → List ByteArray → Int → Int → List ByteArray → List (S50) → List (S27) → List (S77) → Int → Int → Int → Option (Int)
  | 0, _, _, _, _, _, _, _, _, _, _ => none
  | k + 1, x16, x17, x18, x120q0, x120q1, x120q2, x120q3, x120q4, x120q5, x120q6 => if x18 < x17 then (if 0 ≤ x18 then (if x18 < (x16.length : Int) then ((b_name.f k (rdOf ByteArray.empty x16 x18)).bind fun t121 => (if t121 = true then (if x18 ≤ (x120q0.length : Int) then ((slices_Contains_string_string.f k (x120q0.take (x18 : Int).toNat) (rdOf ByteArray.empty x16 x18)).bind fun t123 => (if t123 = true then (some 6) else (b_checkOxides.l0 k x16 x17 (wrap64 (x18 + 1)) x120q0 x120q1 x120q2 x120q3 x120q4 x120q5 x120q6))) else (none)) else (some 5))) else (none)) else (none)) else (some 0)
def b_checkOxides.f (k : Nat) (l0_0 : List ByteArray) (l0_1 : List (S50)) (l0_2 : List (S27)) (l0_3 : List (S77)) (a0_4 : Int) (a0_5 : Int) (a0_6 : Int) : Option (Int) := if (l0_0.length : Int) > 12 then (some 3) else (if (l0_0.length : Int) = 0 then (some 1) else (b_checkOxides.l0 k l0_0 (l0_0.length : Int) 0 l0_0 l0_1 l0_2 l0_3 a0_4 a0_5 a0_6))
theorem b_checkOxides.calls (k : Nat) (A0_0 : Option Addr) (c0_0 : Nat) (l0_0 : List ByteArray) (A0_1 : Option Addr) (c0_1 : Nat) (l0_1 : List (S50)) (A0_2 : Option Addr) (c0_2 : Nat) (l0_2 : List (S27)) (A0_3 : Option Addr) (c0_3 : Nat) (l0_3 : List (S77)) (a0_4 : Int) (a0_5 : Int) (a0_6 : Int) (r : Int) (w : World) (hr0_0 : Kd.C Kd.string w A0_0 l0_0.length l0_0) (hc0_0 : l0_0.length ≤ c0_0) (hr0_1 : Kd.C k50 w A0_1 l0_1.length l0_1) (hc0_1 : l0_1.length ≤ c0_1) (hr0_2 : Kd.C k27 w A0_2 l0_2.length l0_2) (hc0_2 : l0_2.length ≤ c0_2) (hr0_3 : Kd.C k77 w A0_3 l0_3.length l0_3) (hc0_3 : l0_3.length ≤ c0_3) (h : b_checkOxides.f k l0_0 l0_1 l0_2 l0_3 a0_4 a0_5 a0_6 = some r) :
    Calls Tryz.prog 33 #[.agg #[.slice A0_0 l0_0.length c0_0, .slice A0_1 l0_1.length c0_1, .slice A0_2 l0_2.length c0_2, .slice A0_3 l0_3.length c0_3, .int .i64 a0_4, .int .i64 a0_5, .int .i64 a0_6]] w fun e w' => e = .returned (.int .i64 r) ∧ Below w.heap.size w w' := by
  have hu29 := Tryz.underlying29
  have HR0_0 := Sd.mk hr0_0
  have HC0_0 := Sd.mk hc0_0
  clear hr0_0 hc0_0
  have HR0_1 := Sd.mk hr0_1
  have HC0_1 := Sd.mk hc0_1
  clear hr0_1 hc0_1
  have HR0_2 := Sd.mk hr0_2
  have HC0_2 := Sd.mk hc0_2
  clear hr0_2 hc0_2
  have HR0_3 := Sd.mk hr0_3
  have HC0_3 := Sd.mk hc0_3
  clear hr0_3 hc0_3
  have HB := Sd.mk (Below.refl w.heap.size w)
  have H : (if (l0_0.length : Int) > 12 then (some 3) else (if (l0_0.length : Int) = 0 then (some 1) else (b_checkOxides.l0 k l0_0 (l0_0.length : Int) 0 l0_0 l0_1 l0_2 l0_3 a0_4 a0_5 a0_6))) = some r := h
  clear h
  by_cases c2 : (l0_0.length : Int) > 12
  · rw [if_pos c2] at H
    have c2b0 : decide (12 < (l0_0.length : Int)) = true := decide_eq_true c2
    have c2b1 : decide (12 < l0_0.length) = true := decide_eq_true (by omega)
    clear c2
    obtain rfl := Option.some.inj H
    go_enter Tryz.func33, Tryz.ntmps33
    go_wp2_with (first | ((with_reducible refine gate_dst (N := 1) rfl ?_); refine box_event ?hg (N := 1) ?hd (cs := #[.slice A0_0 l0_0.length c0_0, .slice A0_1 l0_1.length c0_1, .slice A0_2 l0_2.length c0_2, .slice A0_3 l0_3.length c0_3, .int .i64 a0_4, .int .i64 a0_5, .int .i64 a0_6]) (t := 29) ?hr ?_; (case hd => rfl); (case hg => rfl); (case hr => first | (go_simp; done) | (go_simp; rfl)); intro gb119 hg w3 hbox hb; have n0_ := Sd.mk (below_step (by repeat (first | (with_reducible first | exact HB.out | apply below_alloc | apply pw_below_drewN | apply below_drew1) | exact HB.out)) hb); have n1_ := Sd.mk (hbox); have n2_ := Sd.mk ((by rw [hg]; exact (below_size (by repeat (first | (with_reducible first | exact HB.out | apply below_alloc | apply pw_below_drewN | apply below_drew1) | exact HB.out))) : w.heap.size ≤ gb119)); have n3_ := Sd.mk ((by rw [hg]; exact (below_size (by repeat (first | (with_reducible first | exact HB.out | apply below_alloc | apply pw_below_drewN | apply below_drew1) | exact HB.out))) : w.heap.size ≤ gb119)); clear HB; have HB := n0_; have BK119 := n1_; have GW119 := n2_; have GE119 := n3_; clear n0_ n1_ n2_ n3_; clear hb hbox hg; have hcz4_0 : w3.cell? ⟨gb119, 0, none⟩ = some (.slice A0_0 l0_0.length c0_0) := (blk_cell BK119.out 0).trans rfl; have hcz4_1 : w3.cell? ⟨gb119, 1, none⟩ = some (.slice A0_1 l0_1.length c0_1) := (blk_cell BK119.out 1).trans rfl; have hcz4_2 : w3.cell? ⟨gb119, 2, none⟩ = some (.slice A0_2 l0_2.length c0_2) := (blk_cell BK119.out 2).trans rfl; have hcz4_3 : w3.cell? ⟨gb119, 3, none⟩ = some (.slice A0_3 l0_3.length c0_3) := (blk_cell BK119.out 3).trans rfl; have hcz4_4 : w3.cell? ⟨gb119, 4, none⟩ = some (.int .i64 a0_4) := (blk_cell BK119.out 4).trans rfl; have hcz4_5 : w3.cell? ⟨gb119, 5, none⟩ = some (.int .i64 a0_5) := (blk_cell BK119.out 5).trans rfl; have hcz4_6 : w3.cell? ⟨gb119, 6, none⟩ = some (.int .i64 a0_6) := (blk_cell BK119.out 6).trans rfl; have hfz4_0 := blk_frozen BK119.out 0; have hfz4_1 := blk_frozen BK119.out 1; have hfz4_2 := blk_frozen BK119.out 2; have hfz4_3 := blk_frozen BK119.out 3; have hfz4_4 := blk_frozen BK119.out 4; have hfz4_5 := blk_frozen BK119.out 5; have hfz4_6 := blk_frozen BK119.out 6))
    go_ret
    exact ⟨by first | rfl | (simp [errW_none, errW_some] <;> rfl) | (simp [*, errW_none, errW_some] <;> rfl), by repeat (first | (with_reducible first | exact HB.out | apply below_alloc | apply pw_below_drewN | apply below_drew1 | refine below_set ?_ GE119.out) | exact HB.out)⟩
  · rw [if_neg c2] at H
    have c2b0 : decide (12 < (l0_0.length : Int)) = false := decide_eq_false c2
    have c2b1 : decide (12 < l0_0.length) = false := decide_eq_false (by omega)
    clear c2
    by_cases c5 : (l0_0.length : Int) = 0
    · rw [if_pos c5] at H
      have c5b0 : ((l0_0.length : Int) == 0) = true := beq_iff_eq.mpr c5
      have c5b1 : ((l0_0.length : Int) != 0) = false := bne_eq_false_iff_eq.mpr c5
      clear c5
      obtain rfl := Option.some.inj H
      go_enter Tryz.func33, Tryz.ntmps33
      go_wp2_with (first | ((with_reducible refine gate_dst (N := 1) rfl ?_); refine box_event ?hg (N := 1) ?hd (cs := #[.slice A0_0 l0_0.length c0_0, .slice A0_1 l0_1.length c0_1, .slice A0_2 l0_2.length c0_2, .slice A0_3 l0_3.length c0_3, .int .i64 a0_4, .int .i64 a0_5, .int .i64 a0_6]) (t := 29) ?hr ?_; (case hd => rfl); (case hg => rfl); (case hr => first | (go_simp; done) | (go_simp; rfl)); intro gb119 hg w6 hbox hb; have n0_ := Sd.mk (below_step (by repeat (first | (with_reducible first | exact HB.out | apply below_alloc | apply pw_below_drewN | apply below_drew1) | exact HB.out)) hb); have n1_ := Sd.mk (hbox); have n2_ := Sd.mk ((by rw [hg]; exact (below_size (by repeat (first | (with_reducible first | exact HB.out | apply below_alloc | apply pw_below_drewN | apply below_drew1) | exact HB.out))) : w.heap.size ≤ gb119)); have n3_ := Sd.mk ((by rw [hg]; exact (below_size (by repeat (first | (with_reducible first | exact HB.out | apply below_alloc | apply pw_below_drewN | apply below_drew1) | exact HB.out))) : w.heap.size ≤ gb119)); clear HB; have HB := n0_; have BK119 := n1_; have GW119 := n2_; have GE119 := n3_; clear n0_ n1_ n2_ n3_; clear hb hbox hg; have hcz7_0 : w6.cell? ⟨gb119, 0, none⟩ = some (.slice A0_0 l0_0.length c0_0) := (blk_cell BK119.out 0).trans rfl; have hcz7_1 : w6.cell? ⟨gb119, 1, none⟩ = some (.slice A0_1 l0_1.length c0_1) := (blk_cell BK119.out 1).trans rfl; have hcz7_2 : w6.cell? ⟨gb119, 2, none⟩ = some (.slice A0_2 l0_2.length c0_2) := (blk_cell BK119.out 2).trans rfl; have hcz7_3 : w6.cell? ⟨gb119, 3, none⟩ = some (.slice A0_3 l0_3.length c0_3) := (blk_cell BK119.out 3).trans rfl; have hcz7_4 : w6.cell? ⟨gb119, 4, none⟩ = some (.int .i64 a0_4) := (blk_cell BK119.out 4).trans rfl; have hcz7_5 : w6.cell? ⟨gb119, 5, none⟩ = some (.int .i64 a0_5) := (blk_cell BK119.out 5).trans rfl; have hcz7_6 : w6.cell? ⟨gb119, 6, none⟩ = some (.int .i64 a0_6) := (blk_cell BK119.out 6).trans rfl; have hfz7_0 := blk_frozen BK119.out 0; have hfz7_1 := blk_frozen BK119.out 1; have hfz7_2 := blk_frozen BK119.out 2; have hfz7_3 := blk_frozen BK119.out 3; have hfz7_4 := blk_frozen BK119.out 4; have hfz7_5 := blk_frozen BK119.out 5; have hfz7_6 := blk_frozen BK119.out 6))
      go_ret
      exact ⟨by first | rfl | (simp [errW_none, errW_some] <;> rfl) | (simp [*, errW_none, errW_some] <;> rfl), by repeat (first | (with_reducible first | exact HB.out | apply below_alloc | apply pw_below_drewN | apply below_drew1 | refine below_set ?_ GE119.out) | exact HB.out)⟩
    · rw [if_neg c5] at H
      have c5b0 : ((l0_0.length : Int) == 0) = false := beq_eq_false_iff_ne.mpr c5
      have c5b1 : ((l0_0.length : Int) != 0) = true := bne_iff_ne.mpr c5
      have c5b2 : ¬ (l0_0 = []) := fun h_ => c5 (by rw [h_]; rfl)
      have H' := Sd.mk H
      clear H
      go_enter Tryz.func33, Tryz.ntmps33
      go_wp2_with (first | ((with_reducible refine gate_dst (N := 1) rfl ?_); refine box_event ?hg (N := 1) ?hd (cs := #[.slice A0_0 l0_0.length c0_0, .slice A0_1 l0_1.length c0_1, .slice A0_2 l0_2.length c0_2, .slice A0_3 l0_3.length c0_3, .int .i64 a0_4, .int .i64 a0_5, .int .i64 a0_6]) (t := 29) ?hr ?_; (case hd => rfl); (case hg => rfl); (case hr => first | (go_simp; done) | (go_simp; rfl)); intro gb119 hg w8 hbox hb; have n0_ := Sd.mk (below_step (by repeat (first | (with_reducible first | exact HB.out | apply below_alloc | apply pw_below_drewN | apply below_drew1) | exact HB.out)) hb); have n1_ := Sd.mk (hbox); have n2_ := Sd.mk ((by rw [hg]; exact (below_size (by repeat (first | (with_reducible first | exact HB.out | apply below_alloc | apply pw_below_drewN | apply below_drew1) | exact HB.out))) : w.heap.size ≤ gb119)); have n3_ := Sd.mk ((by rw [hg]; exact (below_size (by repeat (first | (with_reducible first | exact HB.out | apply below_alloc | apply pw_below_drewN | apply below_drew1) | exact HB.out))) : w.heap.size ≤ gb119)); clear HB; have HB := n0_; have BK119 := n1_; have GW119 := n2_; have GE119 := n3_; clear n0_ n1_ n2_ n3_; clear hb hbox hg; have hcz9_0 : w8.cell? ⟨gb119, 0, none⟩ = some (.slice A0_0 l0_0.length c0_0) := (blk_cell BK119.out 0).trans rfl; have hcz9_1 : w8.cell? ⟨gb119, 1, none⟩ = some (.slice A0_1 l0_1.length c0_1) := (blk_cell BK119.out 1).trans rfl; have hcz9_2 : w8.cell? ⟨gb119, 2, none⟩ = some (.slice A0_2 l0_2.length c0_2) := (blk_cell BK119.out 2).trans rfl; have hcz9_3 : w8.cell? ⟨gb119, 3, none⟩ = some (.slice A0_3 l0_3.length c0_3) := (blk_cell BK119.out 3).trans rfl; have hcz9_4 : w8.cell? ⟨gb119, 4, none⟩ = some (.int .i64 a0_4) := (blk_cell BK119.out 4).trans rfl; have hcz9_5 : w8.cell? ⟨gb119, 5, none⟩ = some (.int .i64 a0_5) := (blk_cell BK119.out 5).trans rfl; have hcz9_6 : w8.cell? ⟨gb119, 6, none⟩ = some (.int .i64 a0_6) := (blk_cell BK119.out 6).trans rfl; have hfz9_0 := blk_frozen BK119.out 0; have hfz9_1 := blk_frozen BK119.out 1; have hfz9_2 := blk_frozen BK119.out 2; have hfz9_3 := blk_frozen BK119.out 3; have hfz9_4 := blk_frozen BK119.out 4; have hfz9_5 := blk_frozen BK119.out 5; have hfz9_6 := blk_frozen BK119.out 6))
      go_loopg [18] k (fun kq v18 w' => ∃ (x18_1 : Int), v18 = .int .i64 x18_1 ∧ Sd (b_checkOxides.l0 kq l0_0 (l0_0.length : Int) x18_1 l0_0 l0_1 l0_2 l0_3 a0_4 a0_5 a0_6 = some r) ∧ Sd (kq ≤ k) ∧ Sd (w'.heap[gb119]? = some (.cells #[(.slice A0_0 l0_0.length c0_0), (.slice A0_1 l0_1.length c0_1), (.slice A0_2 l0_2.length c0_2), (.slice A0_3 l0_3.length c0_3), .int .i64 a0_4, .int .i64 a0_5, .int .i64 a0_6] 29 (0, 0))) ∧ Sd (Below w.heap.size w w'))
      case atStart => exact ⟨(0), (by first | rfl | (simp; done) | (simp [*]; done)), H', ⟨Nat.le_refl _⟩, ⟨by (with_reducible repeat (first | refine blk_drewN ?_ _ | refine blk_drew ?_ | refine blk_alloc ?_ _)); exact BK119.out⟩, ⟨by repeat (first | (with_reducible first | exact HB.out | apply below_alloc | apply pw_below_drewN | apply below_drew1 | refine below_set ?_ GE119.out) | exact HB.out)⟩⟩
      case round =>
        clear H'
        try clear c2
        try clear c2b0
        try clear c2b1
        try clear p2
        try clear c3
        try clear c5
        try clear c5b0
        try clear c5b1
        try clear c5b2
        try clear hcz4_0
        try clear hcz4_1
        try clear hcz4_2
        try clear hcz4_3
        try clear hcz4_4
        try clear hcz4_5
        try clear hcz4_6
        try clear hcz7_0
        try clear hcz7_1
        try clear hcz7_2
        try clear hcz7_3
        try clear hcz7_4
        try clear hcz7_5
        try clear hcz7_6
        try clear hcz9_0
        try clear hcz9_1
        try clear hcz9_2
        try clear hcz9_3
        try clear hcz9_4
        try clear hcz9_5
        try clear hcz9_6
        try clear hfz4_0
        try clear hfz4_1
        try clear hfz4_2
        try clear hfz4_3
        try clear hfz4_4
        try clear hfz4_5
        try clear hfz4_6
        try clear hfz7_0
        try clear hfz7_1
        try clear hfz7_2
        try clear hfz7_3
        try clear hfz7_4
        try clear hfz7_5
        try clear hfz7_6
        try clear hfz9_0
        try clear hfz9_1
        try clear hfz9_2
        try clear hfz9_3
        try clear hfz9_4
        try clear hfz9_5
        try clear hfz9_6
        obtain ⟨x18_1, rfl, HA, HK1, BK119, HB⟩ := hrel
        cases gk with
        | zero => exact absurd HA.out (by simp [b_checkOxides.l0])
        | succ k1 =>
          have H := HA.out
          clear HA
          simp only [b_checkOxides.l0] at H
          by_cases c10 : x18_1 < (l0_0.length : Int)
          · rw [if_pos c10] at H
            have c10b0 : decide (x18_1 < (l0_0.length : Int)) = true := decide_eq_true c10
            clear c10
            by_cases c11 : 0 ≤ x18_1
            · rw [if_pos c11] at H
              have c11b0 : decide (0 ≤ x18_1) = true := decide_eq_true c11
              clear c11
              by_cases c12 : x18_1 < (l0_0.length : Int)
              · rw [if_pos c12] at H
                have c12b0 : decide (x18_1 < (l0_0.length : Int)) = true := decide_eq_true c12
                clear c12
                replace H := Option.bind_eq_some_iff.mp H
                obtain ⟨t121, A130, H⟩ := H
                replace H : (if t121 = true then (if x18_1 ≤ (l0_0.length : Int) then ((slices_Contains_string_string.f k1 (l0_0.take (x18_1 : Int).toNat) (rdOf ByteArray.empty l0_0 x18_1)).bind fun t123 => (if t123 = true then (some 6) else (b_checkOxides.l0 k1 l0_0 (l0_0.length : Int) (wrap64 (x18_1 + 1)) l0_0 l0_1 l0_2 l0_3 a0_4 a0_5 a0_6))) else (none)) else (some 5)) = some r := H
                have A13 := Sd.mk A130
                clear A130
                by_cases c14 : t121 = true
                · subst c14
                  have H1 : (if x18_1 ≤ (l0_0.length : Int) then ((slices_Contains_string_string.f k1 (l0_0.take (x18_1 : Int).toNat) (rdOf ByteArray.empty l0_0 x18_1)).bind fun t123 => (if t123 = true then (some 6) else (b_checkOxides.l0 k1 l0_0 (l0_0.length : Int) (wrap64 (x18_1 + 1)) l0_0 l0_1 l0_2 l0_3 a0_4 a0_5 a0_6))) else (none)) = some r := by rw [if_pos rfl] at H; exact H
                  clear H
                  have H := H1
                  clear H1
                  have c15b0 := eq_true (of_decide_eq_true (by first | (with_reducible assumption) | assumption) : 0 ≤ x18_1)
                  by_cases c16 : x18_1 ≤ (l0_0.length : Int)
                  · rw [if_pos c16] at H
                    have c16b0 := eq_true c16
                    have c16b1 : decide (x18_1 ≤ (l0_0.length : Int)) = true := decide_eq_true c16
                    clear c16
                    replace H := Option.bind_eq_some_iff.mp H
                    obtain ⟨t123, A170, H⟩ := H
                    replace H : (if t123 = true then (some 6) else (b_checkOxides.l0 k1 l0_0 (l0_0.length : Int) (wrap64 (x18_1 + 1)) l0_0 l0_1 l0_2 l0_3 a0_4 a0_5 a0_6)) = some r := H
                    have A17 := Sd.mk A170
                    clear A170
                    by_cases c18 : t123 = true
                    · subst c18
                      have H1 : (some 6) = some r := by rw [if_pos rfl] at H; exact H
                      clear H
                      have H := H1
                      clear H1
                      obtain rfl := Option.some.inj H
                      have p120 : 0 ≤ (x18_1 : Int) := of_decide_eq_true (by first | (with_reducible assumption) | assumption)
                      have q120 : x18_1 < (l0_0.length : Int) := of_decide_eq_true (by first | (with_reducible assumption) | assumption)
                      obtain ⟨ad120, e120, hx120_0⟩ := Kd.at_string HR0_0.out x18_1 p120 q120
                      cases e120
                      replace hx120_0 := (HB.out.cell (World.block_lt_of_cell? w _ hx120_0)).trans hx120_0
                      replace p120 := eq_true p120
                      replace q120 := eq_true q120
                      go_wp2_with (first | ((with_reducible refine gate_callee (f := 38) rfl ?_); refine goesL_ (some 25) rfl rfl Tryz.func38 (by kernel_rfl) rfl #[.string (rdOf ByteArray.empty l0_0 x18_1)] rfl (by (try simp only [List.map_toArray, List.map_cons, List.map_nil]); first | done | rfl | (simp only [List.length_drop, List.length_take]; rfl)) ?_; (with_reducible refine (b_name.calls k1 (rdOf ByteArray.empty l0_0 x18_1) true _ A13.out).mono ?_); rintro e w' ⟨rfl, ⟨nd, rfl⟩⟩; refine ⟨_, rfl, ?_⟩; have hcz19_0 : wr.cell? ⟨gb119, 0, none⟩ = some (.slice (some ad120) l0_0.length c0_0) := (blk_cell BK119.out 0).trans rfl; have hcz19_1 : wr.cell? ⟨gb119, 1, none⟩ = some (.slice A0_1 l0_1.length c0_1) := (blk_cell BK119.out 1).trans rfl; have hcz19_2 : wr.cell? ⟨gb119, 2, none⟩ = some (.slice A0_2 l0_2.length c0_2) := (blk_cell BK119.out 2).trans rfl; have hcz19_3 : wr.cell? ⟨gb119, 3, none⟩ = some (.slice A0_3 l0_3.length c0_3) := (blk_cell BK119.out 3).trans rfl; have hcz19_4 : wr.cell? ⟨gb119, 4, none⟩ = some (.int .i64 a0_4) := (blk_cell BK119.out 4).trans rfl; have hcz19_5 : wr.cell? ⟨gb119, 5, none⟩ = some (.int .i64 a0_5) := (blk_cell BK119.out 5).trans rfl; have hcz19_6 : wr.cell? ⟨gb119, 6, none⟩ = some (.int .i64 a0_6) := (blk_cell BK119.out 6).trans rfl; have hfz19_0 := blk_frozen BK119.out 0; have hfz19_1 := blk_frozen BK119.out 1; have hfz19_2 := blk_frozen BK119.out 2; have hfz19_3 := blk_frozen BK119.out 3; have hfz19_4 := blk_frozen BK119.out 4; have hfz19_5 := blk_frozen BK119.out 5; have hfz19_6 := blk_frozen BK119.out 6; obtain ⟨i020, hi020, _, hsz20, _⟩ := info_parts info9; obtain ⟨hcut20, hA20, hC20⟩ := print_take_of (P := Tryz.prog) Value.string (⟨#[]⟩ : ByteArray) 22 9 .i64 Tryz.underlying22 hi020 hsz20 (some ad120) c0_0 l0_0 x18_1 (of_decide_eq_true (by first | (with_reducible assumption) | assumption)) (of_decide_eq_true (by first | (with_reducible assumption) | assumption)) HC0_0.out; have HR122 := Sd.mk (Kd.C_of_reads (h1 := fun _ => rfl) (hA20 _ (Kd.reads_of_C HR0_0.out))); have HC122 := Sd.mk hC20; clear hA20 hC20 hi020 hsz20) | ((with_reducible refine gate_callee (f := 80) rfl ?_); refine goesL_ (some 33) rfl rfl Tryz.func80 (by kernel_rfl) rfl #[.slice (some ad120) (l0_0.take (x18_1 : Int).toNat).length c0_0, .string (rdOf ByteArray.empty l0_0 x18_1)] rfl (by (try simp only [List.map_toArray, List.map_cons, List.map_nil]); first | done | (rw [show (l0_0.take (x18_1 : Int).toNat).length = x18_1.toNat from (by rw [List.length_take]; have h_ : (x18_1 : Int) ≤ (l0_0.length : Int) := of_decide_eq_true (by first | (with_reducible assumption) | assumption); omega)] <;> rfl) | rfl | (simp only [List.length_drop, List.length_take]; rfl)) ?_; (with_reducible refine (slices_Contains_string_string.calls k1 _ _ (l0_0.take (x18_1 : Int).toNat) (rdOf ByteArray.empty l0_0 x18_1) true _ ?side1 ?side2 A17.out).mono ?_); (case side1 => repeat (first | exact (Kd.C_below HR122.out (by repeat (first | (with_reducible first | exact HB.out | apply below_alloc | apply pw_below_drewN | apply below_drew1 | refine below_set ?_ GE119.out) | exact HB.out))) | (with_reducible refine Kd.C_alloc ?_ _) | (with_reducible refine Kd.C_drewN ?_ _) | (with_reducible refine Kd.C_drew ?_))); (case side2 => exact HC122.out); rintro e w' ⟨rfl, ⟨nd, rfl⟩⟩; refine ⟨_, rfl, ?_⟩))
                      go_ret
                      exact ⟨by first | rfl | (simp [errW_none, errW_some] <;> rfl) | (simp [*, errW_none, errW_some] <;> rfl), by repeat (first | (with_reducible first | exact HB.out | apply below_alloc | apply pw_below_drewN | apply below_drew1 | refine below_set ?_ GE119.out) | exact HB.out)⟩
                    · replace c18 := Bool.eq_false_iff.mpr c18
                      subst c18
                      have H1 : (b_checkOxides.l0 k1 l0_0 (l0_0.length : Int) (wrap64 (x18_1 + 1)) l0_0 l0_1 l0_2 l0_3 a0_4 a0_5 a0_6) = some r := by rw [if_neg (show ¬ (false = true) by decide)] at H; exact H
                      clear H
                      have H := H1
                      clear H1
                      have H' := Sd.mk H
                      clear H
                      have p120 : 0 ≤ (x18_1 : Int) := of_decide_eq_true (by first | (with_reducible assumption) | assumption)
                      have q120 : x18_1 < (l0_0.length : Int) := of_decide_eq_true (by first | (with_reducible assumption) | assumption)
                      obtain ⟨ad120, e120, hx120_0⟩ := Kd.at_string HR0_0.out x18_1 p120 q120
                      cases e120
                      replace hx120_0 := (HB.out.cell (World.block_lt_of_cell? w _ hx120_0)).trans hx120_0
                      replace p120 := eq_true p120
                      replace q120 := eq_true q120
                      go_wp2_with (first | ((with_reducible refine gate_callee (f := 38) rfl ?_); refine goesL_ (some 25) rfl rfl Tryz.func38 (by kernel_rfl) rfl #[.string (rdOf ByteArray.empty l0_0 x18_1)] rfl (by (try simp only [List.map_toArray, List.map_cons, List.map_nil]); first | done | rfl | (simp only [List.length_drop, List.length_take]; rfl)) ?_; (with_reducible refine (b_name.calls k1 (rdOf ByteArray.empty l0_0 x18_1) true _ A13.out).mono ?_); rintro e w' ⟨rfl, ⟨nd, rfl⟩⟩; refine ⟨_, rfl, ?_⟩; have hcz21_0 : wr.cell? ⟨gb119, 0, none⟩ = some (.slice (some ad120) l0_0.length c0_0) := (blk_cell BK119.out 0).trans rfl; have hcz21_1 : wr.cell? ⟨gb119, 1, none⟩ = some (.slice A0_1 l0_1.length c0_1) := (blk_cell BK119.out 1).trans rfl; have hcz21_2 : wr.cell? ⟨gb119, 2, none⟩ = some (.slice A0_2 l0_2.length c0_2) := (blk_cell BK119.out 2).trans rfl; have hcz21_3 : wr.cell? ⟨gb119, 3, none⟩ = some (.slice A0_3 l0_3.length c0_3) := (blk_cell BK119.out 3).trans rfl; have hcz21_4 : wr.cell? ⟨gb119, 4, none⟩ = some (.int .i64 a0_4) := (blk_cell BK119.out 4).trans rfl; have hcz21_5 : wr.cell? ⟨gb119, 5, none⟩ = some (.int .i64 a0_5) := (blk_cell BK119.out 5).trans rfl; have hcz21_6 : wr.cell? ⟨gb119, 6, none⟩ = some (.int .i64 a0_6) := (blk_cell BK119.out 6).trans rfl; have hfz21_0 := blk_frozen BK119.out 0; have hfz21_1 := blk_frozen BK119.out 1; have hfz21_2 := blk_frozen BK119.out 2; have hfz21_3 := blk_frozen BK119.out 3; have hfz21_4 := blk_frozen BK119.out 4; have hfz21_5 := blk_frozen BK119.out 5; have hfz21_6 := blk_frozen BK119.out 6; obtain ⟨i022, hi022, _, hsz22, _⟩ := info_parts info9; obtain ⟨hcut22, hA22, hC22⟩ := print_take_of (P := Tryz.prog) Value.string (⟨#[]⟩ : ByteArray) 22 9 .i64 Tryz.underlying22 hi022 hsz22 (some ad120) c0_0 l0_0 x18_1 (of_decide_eq_true (by first | (with_reducible assumption) | assumption)) (of_decide_eq_true (by first | (with_reducible assumption) | assumption)) HC0_0.out; have HR122 := Sd.mk (Kd.C_of_reads (h1 := fun _ => rfl) (hA22 _ (Kd.reads_of_C HR0_0.out))); have HC122 := Sd.mk hC22; clear hA22 hC22 hi022 hsz22) | ((with_reducible refine gate_callee (f := 80) rfl ?_); refine goesL_ (some 33) rfl rfl Tryz.func80 (by kernel_rfl) rfl #[.slice (some ad120) (l0_0.take (x18_1 : Int).toNat).length c0_0, .string (rdOf ByteArray.empty l0_0 x18_1)] rfl (by (try simp only [List.map_toArray, List.map_cons, List.map_nil]); first | done | (rw [show (l0_0.take (x18_1 : Int).toNat).length = x18_1.toNat from (by rw [List.length_take]; have h_ : (x18_1 : Int) ≤ (l0_0.length : Int) := of_decide_eq_true (by first | (with_reducible assumption) | assumption); omega)] <;> rfl) | rfl | (simp only [List.length_drop, List.length_take]; rfl)) ?_; (with_reducible refine (slices_Contains_string_string.calls k1 _ _ (l0_0.take (x18_1 : Int).toNat) (rdOf ByteArray.empty l0_0 x18_1) false _ ?side1 ?side2 A17.out).mono ?_); (case side1 => repeat (first | exact (Kd.C_below HR122.out (by repeat (first | (with_reducible first | exact HB.out | apply below_alloc | apply pw_below_drewN | apply below_drew1 | refine below_set ?_ GE119.out) | exact HB.out))) | (with_reducible refine Kd.C_alloc ?_ _) | (with_reducible refine Kd.C_drewN ?_ _) | (with_reducible refine Kd.C_drew ?_))); (case side2 => exact HC122.out); rintro e w' ⟨rfl, ⟨nd, rfl⟩⟩; refine ⟨_, rfl, ?_⟩))
                      go_roundg k1
                      case measure => have := HK1.out; omega
                      case rel => exact ⟨(wrap64 (x18_1 + 1)), (by first | rfl | (simp; done) | (simp [*]; done)), H', ⟨by have := HK1.out; omega⟩, ⟨by (with_reducible repeat (first | refine blk_drewN ?_ _ | refine blk_drew ?_ | refine blk_alloc ?_ _)); exact BK119.out⟩, ⟨by repeat (first | (with_reducible first | exact HB.out | apply below_alloc | apply pw_below_drewN | apply below_drew1 | refine below_set ?_ GE119.out) | exact HB.out)⟩⟩
                  · rw [if_neg c16] at H
                    exact absurd H (by simp)
                · replace c14 := Bool.eq_false_iff.mpr c14
                  subst c14
                  have H1 : (some 5) = some r := by rw [if_neg (show ¬ (false = true) by decide)] at H; exact H
                  clear H
                  have H := H1
                  clear H1
                  obtain rfl := Option.some.inj H
                  have p120 : 0 ≤ (x18_1 : Int) := of_decide_eq_true (by first | (with_reducible assumption) | assumption)
                  have q120 : x18_1 < (l0_0.length : Int) := of_decide_eq_true (by first | (with_reducible assumption) | assumption)
                  obtain ⟨ad120, e120, hx120_0⟩ := Kd.at_string HR0_0.out x18_1 p120 q120
                  cases e120
                  replace hx120_0 := (HB.out.cell (World.block_lt_of_cell? w _ hx120_0)).trans hx120_0
                  replace p120 := eq_true p120
                  replace q120 := eq_true q120
                  go_wp2_with (first | ((with_reducible refine gate_callee (f := 38) rfl ?_); refine goesL_ (some 25) rfl rfl Tryz.func38 (by kernel_rfl) rfl #[.string (rdOf ByteArray.empty l0_0 x18_1)] rfl (by (try simp only [List.map_toArray, List.map_cons, List.map_nil]); first | done | rfl | (simp only [List.length_drop, List.length_take]; rfl)) ?_; (with_reducible refine (b_name.calls k1 (rdOf ByteArray.empty l0_0 x18_1) false _ A13.out).mono ?_); rintro e w' ⟨rfl, ⟨nd, rfl⟩⟩; refine ⟨_, rfl, ?_⟩))
                  go_ret
                  exact ⟨by first | rfl | (simp [errW_none, errW_some] <;> rfl) | (simp [*, errW_none, errW_some] <;> rfl), by repeat (first | (with_reducible first | exact HB.out | apply below_alloc | apply pw_below_drewN | apply below_drew1 | refine below_set ?_ GE119.out) | exact HB.out)⟩
              · rw [if_neg c12] at H
                exact absurd H (by simp)
            · rw [if_neg c11] at H
              exact absurd H (by simp)
          · rw [if_neg c10] at H
            have c10b0 : decide (x18_1 < (l0_0.length : Int)) = false := decide_eq_false c10
            clear c10
            obtain rfl := Option.some.inj H
            go_wp2
            go_ret
            exact ⟨by first | rfl | (simp [errW_none, errW_some] <;> rfl) | (simp [*, errW_none, errW_some] <;> rfl), by repeat (first | (with_reducible first | exact HB.out | apply below_alloc | apply pw_below_drewN | apply below_drew1 | refine below_set ?_ GE119.out) | exact HB.out)⟩
end
section
mutual
def b_checkMaterial.j0 : Nat → Bool → ByteArray → Int → Int → Int → Int → Int → List (S27) → Option (Int)
 | 0, _, _, _, _, _, _, _, _ => none
 | k + 1, x46, x127q0, x127q1, x127q2, x127q3, x127q4, x127q5, x127q6 => if x46 = true then (some 1) else (b_checkMaterial.l0 k 0 x127q6 (x127q6.length : Int) 0)
def b_checkMaterial.l0 : Nat → Int → List (S27) → Int → Int → Option (Int)
 | 0, _, _, _, _ => none
 | k + 1, x5, x48, x49, x50 => if x50 < x49 then (if 0 ≤ x50 then (if x50 < (x48.length : Int) then ((b_span.f ((rd_T27 x48 x50).f0) ((rd_T27 x48 x50).f1) 0 1000).bind fun t134 => (if t134 = true then (b_checkMaterial.l0 k (wrap64 (x5 + ((rd_T27 x48 x50).f0))) x48 x49 (wrap64 (x50 + 1))) else (some 1))) else (none)) else (none)) else (if x5 > 1000 then (some 12) else (some 0))
end
def b_checkMaterial.f (k : Nat) (l0_0 : List ByteArray) (l0_1 : List (S50)) (l0_2 : List (S27)) (l0_3 : List (S77)) (a0_4 : Int) (a0_5 : Int) (a0_6 : Int) (a1_0 : ByteArray) (a1_1 : Int) (a1_2 : Int) (a1_3 : Int) (a1_4 : Int) (a1_5 : Int) (l1_6 : List (S27)) : Option (Int) := (b_within.f a1_1 0 10000).bind fun t127 => (if t127 = true then ((b_within.f a1_2 (-1000) 1000).bind fun t128 => (if t128 = true then ((b_within.f a1_3 0 10000).bind fun t129 => (if t129 = true then ((b_within.f a1_4 a1_3 10000).bind fun t130 => (if t130 = true then ((b_within.f a1_5 1 10000).bind fun t131 => (if t131 = true then (b_checkMaterial.j0 k ((l1_6.length : Int) != (l0_0.length : Int)) a1_0 a1_1 a1_2 a1_3 a1_4 a1_5 l1_6) else (b_checkMaterial.j0 k true a1_0 a1_1 a1_2 a1_3 a1_4 a1_5 l1_6))) else (b_checkMaterial.j0 k true a1_0 a1_1 a1_2 a1_3 a1_4 a1_5 l1_6))) else (b_checkMaterial.j0 k true a1_0 a1_1 a1_2 a1_3 a1_4 a1_5 l1_6))) else (b_checkMaterial.j0 k true a1_0 a1_1 a1_2 a1_3 a1_4 a1_5 l1_6))) else (b_checkMaterial.j0 k true a1_0 a1_1 a1_2 a1_3 a1_4 a1_5 l1_6))
theorem b_checkMaterial.calls (k : Nat) (A0_0 : Option Addr) (c0_0 : Nat) (l0_0 : List ByteArray) (A0_1 : Option Addr) (c0_1 : Nat) (l0_1 : List (S50)) (A0_2 : Option Addr) (c0_2 : Nat) (l0_2 : List (S27)) (A0_3 : Option Addr) (c0_3 : Nat) (l0_3 : List (S77)) (a0_4 : Int) (a0_5 : Int) (a0_6 : Int) (a1_0 : ByteArray) (a1_1 : Int) (a1_2 : Int) (a1_3 : Int) (a1_4 : Int) (a1_5 : Int) (A1_6 : Option Addr) (c1_6 : Nat) (l1_6 : List (S27)) (r : Int) (w : World) (hr0_0 : Kd.C Kd.string w A0_0 l0_0.length l0_0) (hc0_0 : l0_0.length ≤ c0_0) (hr0_1 : Kd.C k50 w A0_1 l0_1.length l0_1) (hc0_1 : l0_1.length ≤ c0_1) (hr0_2 : Kd.C k27 w A0_2 l0_2.length l0_2) (hc0_2 : l0_2.length ≤ c0_2) (hr0_3 : Kd.C k77 w A0_3 l0_3.length l0_3) (hc0_3 : l0_3.length ≤ c0_3) (hr1_6 : Kd.C k27 w A1_6 l1_6.length l1_6) (hc1_6 : l1_6.length ≤ c1_6) (h : b_checkMaterial.f k l0_0 l0_1 l0_2 l0_3 a0_4 a0_5 a0_6 a1_0 a1_1 a1_2 a1_3 a1_4 a1_5 l1_6 = some r) :
  Calls Tryz.prog 86 #[.agg #[.slice A0_0 l0_0.length c0_0, .slice A0_1 l0_1.length c0_1, .slice A0_2 l0_2.length c0_2, .slice A0_3 l0_3.length c0_3, .int .i64 a0_4, .int .i64 a0_5, .int .i64 a0_6], .agg #[.string a1_0, .int .i64 a1_1, .int .i64 a1_2, .int .i64 a1_3, .int .i64 a1_4, .int .i64 a1_5, .slice A1_6 l1_6.length c1_6]] w fun e w' => e = .returned (.int .i64 r) ∧ Below w.heap.size w w' := by
 have hu29 := Tryz.underlying29; have hu50 := Tryz.underlying50; have hu27 := Tryz.underlying27; have HR0_0 := Sd.mk hr0_0; have HC0_0 := Sd.mk hc0_0; clear hr0_0 hc0_0; have HR0_1 := Sd.mk hr0_1; have HC0_1 := Sd.mk hc0_1; clear hr0_1 hc0_1; have HR0_2 := Sd.mk hr0_2; have HC0_2 := Sd.mk hc0_2; clear hr0_2 hc0_2; have HR0_3 := Sd.mk hr0_3; have HC0_3 := Sd.mk hc0_3; clear hr0_3 hc0_3; have HR1_6 := Sd.mk hr1_6; have HC1_6 := Sd.mk hc1_6; clear hr1_6 hc1_6; have HB := Sd.mk (Below.refl w.heap.size w)
 have H : ((b_within.f a1_1 0 10000).bind fun t127 => (if t127 = true then ((b_within.f a1_2 (-1000) 1000).bind fun t128 => (if t128 = true then ((b_within.f a1_3 0 10000).bind fun t129 => (if t129 = true then ((b_within.f a1_4 a1_3 10000).bind fun t130 => (if t130 = true then ((b_within.f a1_5 1 10000).bind fun t131 => (if t131 = true then (b_checkMaterial.j0 k ((l1_6.length : Int) != (l0_0.length : Int)) a1_0 a1_1 a1_2 a1_3 a1_4 a1_5 l1_6) else (b_checkMaterial.j0 k true a1_0 a1_1 a1_2 a1_3 a1_4 a1_5 l1_6))) else (b_checkMaterial.j0 k true a1_0 a1_1 a1_2 a1_3 a1_4 a1_5 l1_6))) else (b_checkMaterial.j0 k true a1_0 a1_1 a1_2 a1_3 a1_4 a1_5 l1_6))) else (b_checkMaterial.j0 k true a1_0 a1_1 a1_2 a1_3 a1_4 a1_5 l1_6))) else (b_checkMaterial.j0 k true a1_0 a1_1 a1_2 a1_3 a1_4 a1_5 l1_6))) = some r := h
 clear h; have HC3 := Sd.mk H; clear H
 go_enter Tryz.func86, Tryz.ntmps86
 go_upto_region 1 with (first | ((with_reducible refine gate_dst (N := 2) rfl ?_); (try (refine gate_guard (by rfl) ?_; dsimp only)); refine box_event ?hg (N := 2) ?hd (cs := #[.slice A0_0 l0_0.length c0_0, .slice A0_1 l0_1.length c0_1, .slice A0_2 l0_2.length c0_2, .slice A0_3 l0_3.length c0_3, .int .i64 a0_4, .int .i64 a0_5, .int .i64 a0_6]) (t := 29) ?hr ?_; (case hd => rfl); (case hg => rfl); (case hr => exact tG); intro gb125 hg w4 hbox hb; have BK125 := Sd.mk (hbox); have GW125 := Sd.mk (bSz hg (bBl HB.out)); have GE125 := Sd.mk (bSz hg (bBl HB.out)); replace HB := Sd.mk (below_step (bBl HB.out) hb); clear hb hbox hg) | ((with_reducible refine gate_dst (N := 3) rfl ?_); (try (refine gate_guard (by rfl) ?_; dsimp only)); refine box_event ?hg (N := 3) ?hd (cs := #[.string a1_0, .int .i64 a1_1, .int .i64 a1_2, .int .i64 a1_3, .int .i64 a1_4, .int .i64 a1_5, .slice A1_6 l1_6.length c1_6]) (t := 50) ?hr ?_; (case hd => rfl); (case hg => rfl); (case hr => exact tG); intro gb126 hg w5 hbox hb; have BK126 := Sd.mk (hbox); have GW126 := Sd.mk (bSz hg (bBl HB.out)); have GE126 := Sd.mk (bSz hg (bBl HB.out)); replace HB := Sd.mk (below_step (bBl HB.out) hb); have NB125_126 := Sd.mk (bNl hg (bkA BK125.out)); have NB126_125 := Sd.mk (bNg hg (bkA BK125.out)); replace BK125 := Sd.mk (blk_below (bkA BK125.out) hb); clear hb hbox hg))
 (try simp only [Act.put, List.setIfInBounds_toArray, List.set_cons_zero, List.set_cons_succ])
 go_cut [46] (fun v46 wc => ∃ (kq : Nat) (x46_2 : Bool), v46 = .bool x46_2 ∧ Sd (b_checkMaterial.j0 kq x46_2 a1_0 a1_1 a1_2 a1_3 a1_4 a1_5 l1_6 = some r) ∧ Sd (kq ≤ k) ∧ Sd (wc.heap[gb125]? = some (.cells #[(.slice A0_0 l0_0.length c0_0), (.slice A0_1 l0_1.length c0_1), (.slice A0_2 l0_2.length c0_2), (.slice A0_3 l0_3.length c0_3), .int .i64 a0_4, .int .i64 a0_5, .int .i64 a0_6] 29 (0, 0))) ∧ Sd (wc.heap[gb126]? = some (.cells #[.string a1_0, .int .i64 a1_1, .int .i64 a1_2, .int .i64 a1_3, .int .i64 a1_4, .int .i64 a1_5, (.slice A1_6 l1_6.length c1_6)] 50 (0, 0))) ∧ Sd (Below w.heap.size w wc))
 case first =>
  have H := HC3.out; clear HC3; replace H := Option.bind_eq_some_iff.mp H; obtain ⟨t127, A60, H⟩ := H
  try dsimp only at H
  have A6 := Sd.mk A60; clear A60
  by_cases c7 : t127 = true
  ·subst c7
   have H1 : ((b_within.f a1_2 (-1000) 1000).bind fun t128 => (if t128 = true then ((b_within.f a1_3 0 10000).bind fun t129 => (if t129 = true then ((b_within.f a1_4 a1_3 10000).bind fun t130 => (if t130 = true then ((b_within.f a1_5 1 10000).bind fun t131 => (if t131 = true then (b_checkMaterial.j0 k ((l1_6.length : Int) != (l0_0.length : Int)) a1_0 a1_1 a1_2 a1_3 a1_4 a1_5 l1_6) else (b_checkMaterial.j0 k true a1_0 a1_1 a1_2 a1_3 a1_4 a1_5 l1_6))) else (b_checkMaterial.j0 k true a1_0 a1_1 a1_2 a1_3 a1_4 a1_5 l1_6))) else (b_checkMaterial.j0 k true a1_0 a1_1 a1_2 a1_3 a1_4 a1_5 l1_6))) else (b_checkMaterial.j0 k true a1_0 a1_1 a1_2 a1_3 a1_4 a1_5 l1_6))) = some r := by rw [if_pos rfl] at H; exact H
   clear H; have H := H1; clear H1; replace H := Option.bind_eq_some_iff.mp H; obtain ⟨t128, A80, H⟩ := H
   try dsimp only at H
   have A8 := Sd.mk A80; clear A80
   by_cases c9 : t128 = true
   ·subst c9
    have H1 : ((b_within.f a1_3 0 10000).bind fun t129 => (if t129 = true then ((b_within.f a1_4 a1_3 10000).bind fun t130 => (if t130 = true then ((b_within.f a1_5 1 10000).bind fun t131 => (if t131 = true then (b_checkMaterial.j0 k ((l1_6.length : Int) != (l0_0.length : Int)) a1_0 a1_1 a1_2 a1_3 a1_4 a1_5 l1_6) else (b_checkMaterial.j0 k true a1_0 a1_1 a1_2 a1_3 a1_4 a1_5 l1_6))) else (b_checkMaterial.j0 k true a1_0 a1_1 a1_2 a1_3 a1_4 a1_5 l1_6))) else (b_checkMaterial.j0 k true a1_0 a1_1 a1_2 a1_3 a1_4 a1_5 l1_6))) = some r := by rw [if_pos rfl] at H; exact H
    clear H; have H := H1; clear H1; replace H := Option.bind_eq_some_iff.mp H; obtain ⟨t129, A100, H⟩ := H
    try dsimp only at H
    have A10 := Sd.mk A100; clear A100
    by_cases c11 : t129 = true
    ·subst c11
     have H1 : ((b_within.f a1_4 a1_3 10000).bind fun t130 => (if t130 = true then ((b_within.f a1_5 1 10000).bind fun t131 => (if t131 = true then (b_checkMaterial.j0 k ((l1_6.length : Int) != (l0_0.length : Int)) a1_0 a1_1 a1_2 a1_3 a1_4 a1_5 l1_6) else (b_checkMaterial.j0 k true a1_0 a1_1 a1_2 a1_3 a1_4 a1_5 l1_6))) else (b_checkMaterial.j0 k true a1_0 a1_1 a1_2 a1_3 a1_4 a1_5 l1_6))) = some r := by rw [if_pos rfl] at H; exact H
     clear H; have H := H1; clear H1; replace H := Option.bind_eq_some_iff.mp H; obtain ⟨t130, A120, H⟩ := H
     try dsimp only at H
     have A12 := Sd.mk A120; clear A120
     by_cases c13 : t130 = true
     ·subst c13
      have H1 : ((b_within.f a1_5 1 10000).bind fun t131 => (if t131 = true then (b_checkMaterial.j0 k ((l1_6.length : Int) != (l0_0.length : Int)) a1_0 a1_1 a1_2 a1_3 a1_4 a1_5 l1_6) else (b_checkMaterial.j0 k true a1_0 a1_1 a1_2 a1_3 a1_4 a1_5 l1_6))) = some r := by rw [if_pos rfl] at H; exact H
      clear H; have H := H1; clear H1; replace H := Option.bind_eq_some_iff.mp H; obtain ⟨t131, A140, H⟩ := H
      try dsimp only at H
      have A14 := Sd.mk A140; clear A140
      by_cases c15 : t131 = true
      ·subst c15
       have H1 : (b_checkMaterial.j0 k ((l1_6.length : Int) != (l0_0.length : Int)) a1_0 a1_1 a1_2 a1_3 a1_4 a1_5 l1_6) = some r := by rw [if_pos rfl] at H; exact H
       clear H; have H := H1; clear H1; have H' := Sd.mk H; clear H; have hnb16 := NB126_125.out; have hnc16 := NB125_126.out; obtain ⟨u17_0, u17_1, u17_2, u17_3, u17_4, u17_5, u17_6, o17_0, o17_1, o17_2, o17_3, o17_4, o17_5, o17_6⟩ := bc7 (w := w5) BK126.out
       go_wp2_with (first | ((with_reducible refine gate_callee (f := 26) rfl ?_); refine goesL_ (some 10) rfl rfl Tryz.func26 (by kernel_rfl) rfl #[.int .i64 a1_1, .int .i64 0, .int .i64 10000] rfl tM ?_; (with_reducible refine (b_within.calls a1_1 0 10000 true _ A6.out).mono ?_); rintro e w' ⟨rfl, ⟨nd, rfl⟩⟩; refine ⟨_, rfl, ?_⟩) | (go_at_call 26; (with_reducible refine (b_within.calls a1_2 (-1000) 1000 true _ A8.out).mono ?_); rintro e w' ⟨rfl, ⟨nd, rfl⟩⟩) | (go_at_call 26; (with_reducible refine (b_within.calls a1_3 0 10000 true _ A10.out).mono ?_); rintro e w' ⟨rfl, ⟨nd, rfl⟩⟩) | (go_at_call 26; (with_reducible refine (b_within.calls a1_4 a1_3 10000 true _ A12.out).mono ?_); rintro e w' ⟨rfl, ⟨nd, rfl⟩⟩) | (go_at_call 26; (with_reducible refine (b_within.calls a1_5 1 10000 true _ A14.out).mono ?_); rintro e w' ⟨rfl, ⟨nd, rfl⟩⟩; obtain ⟨u18_0, u18_1, u18_2, u18_3, u18_4, u18_5, u18_6, o18_0, o18_1, o18_2, o18_3, o18_4, o18_5, o18_6⟩ := bc7 (w := w5) BK125.out))
       go_meet
       case rel => exact ⟨_, (((l1_6.length : Int) != (l0_0.length : Int))), tS, H', ⟨by first | omega | exact Nat.le_refl _⟩, ⟨bkA BK125.out⟩, ⟨bkA BK126.out⟩, ⟨bBl HB.out⟩⟩
      ·replace c15 := Bool.eq_false_iff.mpr c15
       subst c15
       have H1 : (b_checkMaterial.j0 k true a1_0 a1_1 a1_2 a1_3 a1_4 a1_5 l1_6) = some r := by rw [if_neg (show ¬ (false = true) by decide)] at H; exact H
       clear H; have H := H1; clear H1; have H' := Sd.mk H; clear H; have hnb19 := NB126_125.out; have hnc19 := NB125_126.out; obtain ⟨u20_0, u20_1, u20_2, u20_3, u20_4, u20_5, u20_6, o20_0, o20_1, o20_2, o20_3, o20_4, o20_5, o20_6⟩ := bc7 (w := w5) BK126.out
       go_wp2_with (first | ((with_reducible refine gate_callee (f := 26) rfl ?_); refine goesL_ (some 10) rfl rfl Tryz.func26 (by kernel_rfl) rfl #[.int .i64 a1_1, .int .i64 0, .int .i64 10000] rfl tM ?_; (with_reducible refine (b_within.calls a1_1 0 10000 true _ A6.out).mono ?_); rintro e w' ⟨rfl, ⟨nd, rfl⟩⟩; refine ⟨_, rfl, ?_⟩) | (go_at_call 26; (with_reducible refine (b_within.calls a1_2 (-1000) 1000 true _ A8.out).mono ?_); rintro e w' ⟨rfl, ⟨nd, rfl⟩⟩) | (go_at_call 26; (with_reducible refine (b_within.calls a1_3 0 10000 true _ A10.out).mono ?_); rintro e w' ⟨rfl, ⟨nd, rfl⟩⟩) | (go_at_call 26; (with_reducible refine (b_within.calls a1_4 a1_3 10000 true _ A12.out).mono ?_); rintro e w' ⟨rfl, ⟨nd, rfl⟩⟩) | (go_at_call 26; (with_reducible refine (b_within.calls a1_5 1 10000 false _ A14.out).mono ?_); rintro e w' ⟨rfl, ⟨nd, rfl⟩⟩))
       go_meet
       case rel => exact ⟨_, (true), tS, H', ⟨by first | omega | exact Nat.le_refl _⟩, ⟨bkA BK125.out⟩, ⟨bkA BK126.out⟩, ⟨bBl HB.out⟩⟩
     ·replace c13 := Bool.eq_false_iff.mpr c13
      subst c13
      have H1 : (b_checkMaterial.j0 k true a1_0 a1_1 a1_2 a1_3 a1_4 a1_5 l1_6) = some r := by rw [if_neg (show ¬ (false = true) by decide)] at H; exact H
      clear H; have H := H1; clear H1; have H' := Sd.mk H; clear H; have hnb21 := NB126_125.out; have hnc21 := NB125_126.out; obtain ⟨u22_0, u22_1, u22_2, u22_3, u22_4, u22_5, u22_6, o22_0, o22_1, o22_2, o22_3, o22_4, o22_5, o22_6⟩ := bc7 (w := w5) BK126.out
      go_wp2_with (first | ((with_reducible refine gate_callee (f := 26) rfl ?_); refine goesL_ (some 10) rfl rfl Tryz.func26 (by kernel_rfl) rfl #[.int .i64 a1_1, .int .i64 0, .int .i64 10000] rfl tM ?_; (with_reducible refine (b_within.calls a1_1 0 10000 true _ A6.out).mono ?_); rintro e w' ⟨rfl, ⟨nd, rfl⟩⟩; refine ⟨_, rfl, ?_⟩) | (go_at_call 26; (with_reducible refine (b_within.calls a1_2 (-1000) 1000 true _ A8.out).mono ?_); rintro e w' ⟨rfl, ⟨nd, rfl⟩⟩) | (go_at_call 26; (with_reducible refine (b_within.calls a1_3 0 10000 true _ A10.out).mono ?_); rintro e w' ⟨rfl, ⟨nd, rfl⟩⟩) | (go_at_call 26; (with_reducible refine (b_within.calls a1_4 a1_3 10000 false _ A12.out).mono ?_); rintro e w' ⟨rfl, ⟨nd, rfl⟩⟩))
      go_meet
      case rel => exact ⟨_, (true), tS, H', ⟨by first | omega | exact Nat.le_refl _⟩, ⟨bkA BK125.out⟩, ⟨bkA BK126.out⟩, ⟨bBl HB.out⟩⟩
    ·replace c11 := Bool.eq_false_iff.mpr c11
     subst c11
     have H1 : (b_checkMaterial.j0 k true a1_0 a1_1 a1_2 a1_3 a1_4 a1_5 l1_6) = some r := by rw [if_neg (show ¬ (false = true) by decide)] at H; exact H
     clear H; have H := H1; clear H1; have H' := Sd.mk H; clear H; have hnb23 := NB126_125.out; have hnc23 := NB125_126.out; obtain ⟨u24_0, u24_1, u24_2, u24_3, u24_4, u24_5, u24_6, o24_0, o24_1, o24_2, o24_3, o24_4, o24_5, o24_6⟩ := bc7 (w := w5) BK126.out
     go_wp2_with (first | ((with_reducible refine gate_callee (f := 26) rfl ?_); refine goesL_ (some 10) rfl rfl Tryz.func26 (by kernel_rfl) rfl #[.int .i64 a1_1, .int .i64 0, .int .i64 10000] rfl tM ?_; (with_reducible refine (b_within.calls a1_1 0 10000 true _ A6.out).mono ?_); rintro e w' ⟨rfl, ⟨nd, rfl⟩⟩; refine ⟨_, rfl, ?_⟩) | (go_at_call 26; (with_reducible refine (b_within.calls a1_2 (-1000) 1000 true _ A8.out).mono ?_); rintro e w' ⟨rfl, ⟨nd, rfl⟩⟩) | (go_at_call 26; (with_reducible refine (b_within.calls a1_3 0 10000 false _ A10.out).mono ?_); rintro e w' ⟨rfl, ⟨nd, rfl⟩⟩))
     go_meet
     case rel => exact ⟨_, (true), tS, H', ⟨by first | omega | exact Nat.le_refl _⟩, ⟨bkA BK125.out⟩, ⟨bkA BK126.out⟩, ⟨bBl HB.out⟩⟩
   ·replace c9 := Bool.eq_false_iff.mpr c9
    subst c9
    have H1 : (b_checkMaterial.j0 k true a1_0 a1_1 a1_2 a1_3 a1_4 a1_5 l1_6) = some r := by rw [if_neg (show ¬ (false = true) by decide)] at H; exact H
    clear H; have H := H1; clear H1; have H' := Sd.mk H; clear H; have hnb25 := NB126_125.out; have hnc25 := NB125_126.out; obtain ⟨u26_0, u26_1, u26_2, u26_3, u26_4, u26_5, u26_6, o26_0, o26_1, o26_2, o26_3, o26_4, o26_5, o26_6⟩ := bc7 (w := w5) BK126.out
    go_wp2_with (first | ((with_reducible refine gate_callee (f := 26) rfl ?_); refine goesL_ (some 10) rfl rfl Tryz.func26 (by kernel_rfl) rfl #[.int .i64 a1_1, .int .i64 0, .int .i64 10000] rfl tM ?_; (with_reducible refine (b_within.calls a1_1 0 10000 true _ A6.out).mono ?_); rintro e w' ⟨rfl, ⟨nd, rfl⟩⟩; refine ⟨_, rfl, ?_⟩) | (go_at_call 26; (with_reducible refine (b_within.calls a1_2 (-1000) 1000 false _ A8.out).mono ?_); rintro e w' ⟨rfl, ⟨nd, rfl⟩⟩))
    go_meet
    case rel => exact ⟨_, (true), tS, H', ⟨by first | omega | exact Nat.le_refl _⟩, ⟨bkA BK125.out⟩, ⟨bkA BK126.out⟩, ⟨bBl HB.out⟩⟩
  ·replace c7 := Bool.eq_false_iff.mpr c7
   subst c7
   have H1 : (b_checkMaterial.j0 k true a1_0 a1_1 a1_2 a1_3 a1_4 a1_5 l1_6) = some r := by rw [if_neg (show ¬ (false = true) by decide)] at H; exact H
   clear H; have H := H1; clear H1; have H' := Sd.mk H; clear H; have hnb27 := NB126_125.out; have hnc27 := NB125_126.out; obtain ⟨u28_0, u28_1, u28_2, u28_3, u28_4, u28_5, u28_6, o28_0, o28_1, o28_2, o28_3, o28_4, o28_5, o28_6⟩ := bc7 (w := w5) BK126.out
   go_wp2_with (first | ((with_reducible refine gate_callee (f := 26) rfl ?_); refine goesL_ (some 10) rfl rfl Tryz.func26 (by kernel_rfl) rfl #[.int .i64 a1_1, .int .i64 0, .int .i64 10000] rfl tM ?_; (with_reducible refine (b_within.calls a1_1 0 10000 false _ A6.out).mono ?_); rintro e w' ⟨rfl, ⟨nd, rfl⟩⟩; refine ⟨_, rfl, ?_⟩))
   go_meet
   case rel => exact ⟨_, (true), tS, H', ⟨by first | omega | exact Nat.le_refl _⟩, ⟨bkA BK125.out⟩, ⟨bkA BK126.out⟩, ⟨bBl HB.out⟩⟩
 case rest =>
  clear HC3; (try clear c1); (try clear c2); (try clear p2); (try clear c7); (try clear c8); (try clear c9); (try clear c11); (try clear c13); (try clear c15); (try clear c16); (try clear c19); (try clear c21); (try clear c23); (try clear c25); (try clear c26); (try clear c27); (try clear u17_0 u17_1 u17_2 u17_3 u17_4 u17_5 u17_6); (try clear u18_0 u18_1 u18_2 u18_3 u18_4 u18_5 u18_6); (try clear u20_0 u20_1 u20_2 u20_3 u20_4 u20_5 u20_6); (try clear u22_0 u22_1 u22_2 u22_3 u22_4 u22_5 u22_6); (try clear u24_0 u24_1 u24_2 u24_3 u24_4 u24_5 u24_6); (try clear u26_0 u26_1 u26_2 u26_3 u26_4 u26_5 u26_6); (try clear u28_0 u28_1 u28_2 u28_3 u28_4 u28_5 u28_6); (try clear o17_0 o17_1 o17_2 o17_3 o17_4 o17_5 o17_6); (try clear o18_0 o18_1 o18_2 o18_3 o18_4 o18_5 o18_6); (try clear o20_0 o20_1 o20_2 o20_3 o20_4 o20_5 o20_6); (try clear o22_0 o22_1 o22_2 o22_3 o22_4 o22_5 o22_6); (try clear o24_0 o24_1 o24_2 o24_3 o24_4 o24_5 o24_6); (try clear o26_0 o26_1 o26_2 o26_3 o26_4 o26_5 o26_6); (try clear o28_0 o28_1 o28_2 o28_3 o28_4 o28_5 o28_6); obtain ⟨kq, x46_2, rfl, HA, HJ2, BK125, BK126, HB⟩ := hcut
  cases kq with
  | zero => exact absurd HA.out (by simp [b_checkMaterial.j0])
  | succ kj2 =>
   have H := HA.out; clear HA
   simp only [b_checkMaterial.j0] at H
   by_cases c29 : x46_2 = true
   ·subst c29
    have H1 : (some 1) = some r := by rw [if_pos rfl] at H; exact H
    clear H; have H := H1; clear H1; obtain rfl := Option.some.inj H
    go_wp2
    go_ret
    exact ⟨tE, bBl HB.out⟩
   ·replace c29 := Bool.eq_false_iff.mpr c29
    subst c29
    have H1 : (b_checkMaterial.l0 kj2 0 l1_6 (l1_6.length : Int) 0) = some r := by rw [if_neg (show ¬ (false = true) by decide)] at H; exact H
    clear H; have H := H1; clear H1; have H' := Sd.mk H; clear H; have hnb30 := NB126_125.out; have hnc30 := NB125_126.out; obtain ⟨u31_0, u31_1, u31_2, u31_3, u31_4, u31_5, u31_6, o31_0, o31_1, o31_2, o31_3, o31_4, o31_5, o31_6⟩ := bc7 (w := wc) BK126.out
    go_wp2
    go_loopg [5, 50] kj2 (fun kq v5 v50 w' => ∃ (x5_2 : Int) (x50_2 : Int), v5 = .int .i64 x5_2 ∧ v50 = .int .i64 x50_2 ∧ Sd (b_checkMaterial.l0 kq x5_2 l1_6 (l1_6.length : Int) x50_2 = some r) ∧ Sd (kq ≤ kj2) ∧ Sd (w'.heap[gb125]? = some (.cells #[(.slice A0_0 l0_0.length c0_0), (.slice A0_1 l0_1.length c0_1), (.slice A0_2 l0_2.length c0_2), (.slice A0_3 l0_3.length c0_3), .int .i64 a0_4, .int .i64 a0_5, .int .i64 a0_6] 29 (0, 0))) ∧ Sd (w'.heap[gb126]? = some (.cells #[.string a1_0, .int .i64 a1_1, .int .i64 a1_2, .int .i64 a1_3, .int .i64 a1_4, .int .i64 a1_5, (.slice A1_6 l1_6.length c1_6)] 50 (0, 0))) ∧ Sd (Below w.heap.size w w'))
    case atStart => exact ⟨(0), (0), tS, tS, H', ⟨Nat.le_refl _⟩, ⟨bkA BK125.out⟩, ⟨bkA BK126.out⟩, ⟨bBl HB.out⟩⟩
    case round =>
     clear H'; (try clear c1); (try clear c2); (try clear p2 p2); (try clear c3); (try clear c7); (try clear c8); (try clear c9); (try clear c11); (try clear c13); (try clear c15); (try clear c16); (try clear c19); (try clear c21); (try clear c23); (try clear c25); (try clear c26); (try clear c27); (try clear c29); (try clear c30); (try clear u17_0 u17_1 u17_2 u17_3 u17_4 u17_5 u17_6); (try clear u18_0 u18_1 u18_2 u18_3 u18_4 u18_5 u18_6); (try clear u20_0 u20_1 u20_2 u20_3 u20_4 u20_5 u20_6); (try clear u22_0 u22_1 u22_2 u22_3 u22_4 u22_5 u22_6); (try clear u24_0 u24_1 u24_2 u24_3 u24_4 u24_5 u24_6); (try clear u26_0 u26_1 u26_2 u26_3 u26_4 u26_5 u26_6); (try clear u28_0 u28_1 u28_2 u28_3 u28_4 u28_5 u28_6); (try clear u31_0 u31_1 u31_2 u31_3 u31_4 u31_5 u31_6); (try clear o17_0 o17_1 o17_2 o17_3 o17_4 o17_5 o17_6); (try clear o18_0 o18_1 o18_2 o18_3 o18_4 o18_5 o18_6); (try clear o20_0 o20_1 o20_2 o20_3 o20_4 o20_5 o20_6); (try clear o22_0 o22_1 o22_2 o22_3 o22_4 o22_5 o22_6); (try clear o24_0 o24_1 o24_2 o24_3 o24_4 o24_5 o24_6); (try clear o26_0 o26_1 o26_2 o26_3 o26_4 o26_5 o26_6); (try clear o28_0 o28_1 o28_2 o28_3 o28_4 o28_5 o28_6); (try clear o31_0 o31_1 o31_2 o31_3 o31_4 o31_5 o31_6); obtain ⟨x5_2, x50_2, rfl, rfl, HA, HK2, BK125, BK126, HB⟩ := hrel
     cases gk with
     | zero => exact absurd HA.out (by simp [b_checkMaterial.l0])
     | succ k2 =>
      have H := HA.out; clear HA
      simp only [b_checkMaterial.l0] at H
      by_cases c32 : x50_2 < (l1_6.length : Int)
      ·rw [if_pos c32] at H
       have c32b0 : decide (x50_2 < (l1_6.length : Int)) = true := decide_eq_true c32
       clear c32
       by_cases c33 : 0 ≤ x50_2
       ·rw [if_pos c33] at H
        have c33b0 : decide (0 ≤ x50_2) = true := decide_eq_true c33
        clear c33
        by_cases c34 : x50_2 < (l1_6.length : Int)
        ·rw [if_pos c34] at H
         have c34b0 : decide (x50_2 < (l1_6.length : Int)) = true := decide_eq_true c34
         clear c34; replace H := Option.bind_eq_some_iff.mp H; obtain ⟨t134, A350, H⟩ := H
         try dsimp only at H
         have A35 := Sd.mk A350; clear A350
         by_cases c36 : t134 = true
         ·subst c36
          have H1 : (b_checkMaterial.l0 k2 (wrap64 (x5_2 + ((rd_T27 l1_6 x50_2).f0))) l1_6 (l1_6.length : Int) (wrap64 (x50_2 + 1))) = some r := by rw [if_pos rfl] at H; exact H
          clear H; have H := H1; clear H1; have H' := Sd.mk H; clear H
          have p132 : 0 ≤ (x50_2 : Int) := tB
          have q132 : x50_2 < (l1_6.length : Int) := tB
          obtain ⟨ad132, e132, hx132_0, hx132_1⟩ := at_T27 HR1_6.out x50_2 p132 q132; cases e132; replace hx132_0 := cU HB hx132_0; replace hx132_1 := cU HB hx132_1; replace p132 := eq_true p132; replace q132 := eq_true q132
          go_wp2_with (first | ((with_reducible refine gate_dst (N := 7) rfl ?_); (try (refine gate_guard (by rfl) ?_; dsimp only)); refine box_event ?hg (N := 7) ?hd (cs := #[.int .i64 0, .int .i64 0]) (t := 27) ?hr ?_; (case hd => rfl); (case hg => rfl); (case hr => exact tG); intro gb133 hg w37 hbox hb; have BK133 := Sd.mk (hbox); have GW133 := Sd.mk (bSz hg (bBl HB.out)); have GE133 := Sd.mk (bSz hg (bBl HB.out)); replace HB := Sd.mk (below_step (bBl HB.out) hb); have NB125_133 := Sd.mk (bNl hg (bkA BK125.out)); have NB133_125 := Sd.mk (bNg hg (bkA BK125.out)); replace BK125 := Sd.mk (blk_below (bkA BK125.out) hb); have NB126_133 := Sd.mk (bNl hg (bkA BK126.out)); have NB133_126 := Sd.mk (bNg hg (bkA BK126.out)); replace BK126 := Sd.mk (blk_below (bkA BK126.out) hb); clear hb hbox hg; have hnb38 := NB133_125.out; have hnc38 := NB125_133.out; have hnb39 := NB133_126.out; have hnc39 := NB126_133.out; obtain ⟨u40_0, u40_1, o40_0, o40_1⟩ := bc2 (w := w37) BK133.out) | ((with_reducible refine gate_callee (f := 37) rfl ?_); refine goesL_ (some 55) rfl rfl Tryz.func37 (by kernel_rfl) rfl #[.agg #[.int .i64 ((rd_T27 l1_6 x50_2).f0), .int .i64 ((rd_T27 l1_6 x50_2).f1)], .int .i64 0, .int .i64 1000] rfl tM ?_; (with_reducible refine (b_span.calls ((rd_T27 l1_6 x50_2).f0) ((rd_T27 l1_6 x50_2).f1) 0 1000 true _ A35.out).mono ?_); rintro e w41 ⟨rfl, hb⟩; refine ⟨_, rfl, ?_⟩; replace BK125 := Sd.mk (blk_below (g := gb125) (o := .cells #[.slice A0_0 l0_0.length c0_0, .slice A0_1 l0_1.length c0_1, .slice A0_2 l0_2.length c0_2, .slice A0_3 l0_3.length c0_3, .int .i64 a0_4, .int .i64 a0_5, .int .i64 a0_6] 29 (0, 0)) (by (with_reducible repeat (first | refine blk_drewN ?_ _ | refine blk_drew ?_ | refine blk_alloc ?_ _)); refine blk_far ?_ NB125_133.out _; (with_reducible repeat (first | refine blk_drewN ?_ _ | refine blk_drew ?_ | refine blk_alloc ?_ _)); refine blk_far ?_ NB125_133.out _; (with_reducible repeat (first | refine blk_drewN ?_ _ | refine blk_drew ?_ | refine blk_alloc ?_ _)); exact BK125.out) hb); replace BK126 := Sd.mk (blk_below (g := gb126) (o := .cells #[.string a1_0, .int .i64 a1_1, .int .i64 a1_2, .int .i64 a1_3, .int .i64 a1_4, .int .i64 a1_5, .slice (some ad132) l1_6.length c1_6] 50 (0, 0)) (by (with_reducible repeat (first | refine blk_drewN ?_ _ | refine blk_drew ?_ | refine blk_alloc ?_ _)); refine blk_far ?_ NB126_133.out _; (with_reducible repeat (first | refine blk_drewN ?_ _ | refine blk_drew ?_ | refine blk_alloc ?_ _)); refine blk_far ?_ NB126_133.out _; (with_reducible repeat (first | refine blk_drewN ?_ _ | refine blk_drew ?_ | refine blk_alloc ?_ _)); exact BK126.out) hb); replace BK133 := Sd.mk (blk_below (g := gb133) (o := .cells #[.int .i64 ((rd_T27 l1_6 x50_2).f0), .int .i64 ((rd_T27 l1_6 x50_2).f1)] 27 (0, 0)) (by (with_reducible repeat (first | refine blk_drewN ?_ _ | refine blk_drew ?_ | refine blk_alloc ?_ _)); refine blk_put (cs := #[.int .i64 ((rd_T27 l1_6 x50_2).f0), .int .i64 0]) ?_ 1 _ rfl; (with_reducible repeat (first | refine blk_drewN ?_ _ | refine blk_drew ?_ | refine blk_alloc ?_ _)); refine blk_put (cs := #[.int .i64 0, .int .i64 0]) ?_ 0 _ rfl; (with_reducible repeat (first | refine blk_drewN ?_ _ | refine blk_drew ?_ | refine blk_alloc ?_ _)); exact BK133.out) hb); replace HB := Sd.mk (below_step (bBl HB.out) hb); (try clear hb); (try clear hb2); (try clear hk); (try clear hi); obtain ⟨u42_0, u42_1, o42_0, o42_1⟩ := bc2 (w := w41) BK133.out))
          go_roundg k2
          case measure => have := HJ2.out; have := HK2.out; omega
          case rel => exact ⟨(wrap64 (x5_2 + ((rd_T27 l1_6 x50_2).f0))), (wrap64 (x50_2 + 1)), tS, tS, H', ⟨by have := HJ2.out; have := HK2.out; omega⟩, ⟨bkA BK125.out⟩, ⟨bkA BK126.out⟩, ⟨bBl HB.out⟩⟩
         ·replace c36 := Bool.eq_false_iff.mpr c36
          subst c36
          have H1 : (some 1) = some r := by rw [if_neg (show ¬ (false = true) by decide)] at H; exact H
          clear H; have H := H1; clear H1; obtain rfl := Option.some.inj H
          have p132 : 0 ≤ (x50_2 : Int) := tB
          have q132 : x50_2 < (l1_6.length : Int) := tB
          obtain ⟨ad132, e132, hx132_0, hx132_1⟩ := at_T27 HR1_6.out x50_2 p132 q132; cases e132; replace hx132_0 := cU HB hx132_0; replace hx132_1 := cU HB hx132_1; replace p132 := eq_true p132; replace q132 := eq_true q132
          go_wp2_with (first | ((with_reducible refine gate_dst (N := 7) rfl ?_); (try (refine gate_guard (by rfl) ?_; dsimp only)); refine box_event ?hg (N := 7) ?hd (cs := #[.int .i64 0, .int .i64 0]) (t := 27) ?hr ?_; (case hd => rfl); (case hg => rfl); (case hr => exact tG); intro gb133 hg w43 hbox hb; have BK133 := Sd.mk (hbox); have GW133 := Sd.mk (bSz hg (bBl HB.out)); have GE133 := Sd.mk (bSz hg (bBl HB.out)); replace HB := Sd.mk (below_step (bBl HB.out) hb); have NB125_133 := Sd.mk (bNl hg (bkA BK125.out)); have NB133_125 := Sd.mk (bNg hg (bkA BK125.out)); replace BK125 := Sd.mk (blk_below (bkA BK125.out) hb); have NB126_133 := Sd.mk (bNl hg (bkA BK126.out)); have NB133_126 := Sd.mk (bNg hg (bkA BK126.out)); replace BK126 := Sd.mk (blk_below (bkA BK126.out) hb); clear hb hbox hg; have hnb44 := NB133_125.out; have hnc44 := NB125_133.out; have hnb45 := NB133_126.out; have hnc45 := NB126_133.out; obtain ⟨u46_0, u46_1, o46_0, o46_1⟩ := bc2 (w := w43) BK133.out) | ((with_reducible refine gate_callee (f := 37) rfl ?_); refine goesL_ (some 55) rfl rfl Tryz.func37 (by kernel_rfl) rfl #[.agg #[.int .i64 ((rd_T27 l1_6 x50_2).f0), .int .i64 ((rd_T27 l1_6 x50_2).f1)], .int .i64 0, .int .i64 1000] rfl tM ?_; (with_reducible refine (b_span.calls ((rd_T27 l1_6 x50_2).f0) ((rd_T27 l1_6 x50_2).f1) 0 1000 false _ A35.out).mono ?_); rintro e w47 ⟨rfl, hb⟩; refine ⟨_, rfl, ?_⟩; replace BK125 := Sd.mk (blk_below (g := gb125) (o := .cells #[.slice A0_0 l0_0.length c0_0, .slice A0_1 l0_1.length c0_1, .slice A0_2 l0_2.length c0_2, .slice A0_3 l0_3.length c0_3, .int .i64 a0_4, .int .i64 a0_5, .int .i64 a0_6] 29 (0, 0)) (by (with_reducible repeat (first | refine blk_drewN ?_ _ | refine blk_drew ?_ | refine blk_alloc ?_ _)); refine blk_far ?_ NB125_133.out _; (with_reducible repeat (first | refine blk_drewN ?_ _ | refine blk_drew ?_ | refine blk_alloc ?_ _)); refine blk_far ?_ NB125_133.out _; (with_reducible repeat (first | refine blk_drewN ?_ _ | refine blk_drew ?_ | refine blk_alloc ?_ _)); exact BK125.out) hb); replace BK126 := Sd.mk (blk_below (g := gb126) (o := .cells #[.string a1_0, .int .i64 a1_1, .int .i64 a1_2, .int .i64 a1_3, .int .i64 a1_4, .int .i64 a1_5, .slice (some ad132) l1_6.length c1_6] 50 (0, 0)) (by (with_reducible repeat (first | refine blk_drewN ?_ _ | refine blk_drew ?_ | refine blk_alloc ?_ _)); refine blk_far ?_ NB126_133.out _; (with_reducible repeat (first | refine blk_drewN ?_ _ | refine blk_drew ?_ | refine blk_alloc ?_ _)); refine blk_far ?_ NB126_133.out _; (with_reducible repeat (first | refine blk_drewN ?_ _ | refine blk_drew ?_ | refine blk_alloc ?_ _)); exact BK126.out) hb); replace BK133 := Sd.mk (blk_below (g := gb133) (o := .cells #[.int .i64 ((rd_T27 l1_6 x50_2).f0), .int .i64 ((rd_T27 l1_6 x50_2).f1)] 27 (0, 0)) (by (with_reducible repeat (first | refine blk_drewN ?_ _ | refine blk_drew ?_ | refine blk_alloc ?_ _)); refine blk_put (cs := #[.int .i64 ((rd_T27 l1_6 x50_2).f0), .int .i64 0]) ?_ 1 _ rfl; (with_reducible repeat (first | refine blk_drewN ?_ _ | refine blk_drew ?_ | refine blk_alloc ?_ _)); refine blk_put (cs := #[.int .i64 0, .int .i64 0]) ?_ 0 _ rfl; (with_reducible repeat (first | refine blk_drewN ?_ _ | refine blk_drew ?_ | refine blk_alloc ?_ _)); exact BK133.out) hb); replace HB := Sd.mk (below_step (bBl HB.out) hb); (try clear hb); (try clear hb2); (try clear hk); (try clear hi)))
          go_ret
          exact ⟨tE, bBl HB.out⟩
        ·rw [if_neg c34] at H
         exact absurd H (by simp)
       ·rw [if_neg c33] at H
        exact absurd H (by simp)
      ·rw [if_neg c32] at H
       have c32b0 : decide (x50_2 < (l1_6.length : Int)) = false := decide_eq_false c32
       clear c32
       by_cases c48 : x5_2 > 1000
       ·rw [if_pos c48] at H
        have c48b0 : decide (1000 < x5_2) = true := decide_eq_true c48
        clear c48; obtain rfl := Option.some.inj H
        go_wp2
        go_ret
        exact ⟨tE, bBl HB.out⟩
       ·rw [if_neg c48] at H
        have c48b0 : decide (1000 < x5_2) = false := decide_eq_false c48
        clear c48; obtain rfl := Option.some.inj H
        go_wp2
        go_ret
        exact ⟨tE, bBl HB.out⟩
end
section
def oxE (o : List ByteArray) : Nat → Nat → Int
  | 0, _ => 0
  | m + 1, i => if nameOk (rdOf ByteArray.empty o (i : Int)) = true then (if ((o.take i).any fun y => y.toList == (rdOf ByteArray.empty o (i : Int)).toList) = true then 6 else oxE o m (i + 1)) else 5
theorem i_pos (i : Nat) : 0 ≤ (i : Int) := by omega
section
variable (o : List ByteArray) (mt : List S50) (s : List S27) (p : List S77) (a4 a5 a6 : Int)
def conE (l : List S27) : Nat → Nat → Int → Int
  | 0, _, acc => if acc > 1000 then 12 else 0
  | m + 1, i, acc => if badSpan (rd_T27 l (i : Int)) = true then 1 else conE l m (i + 1) (acc + (rd_T27 l (i : Int)).f0)
def matC (n : Nat) (x : S50) : Int :=
  if (0 ≤ x.f1 ∧ x.f1 ≤ 10000) ∧ (-1000 ≤ x.f2 ∧ x.f2 ≤ 1000) ∧ (0 ≤ x.f3 ∧ x.f3 ≤ 10000) ∧ (x.f3 ≤ x.f4 ∧ x.f4 ≤ 10000) ∧ (1 ≤ x.f5 ∧ x.f5 ≤ 10000) ∧ x.f6.length = n then conE x.f6 x.f6.length 0 0 else 1
theorem bad_false {x : S27} (h : badSpan x = false) : 0 ≤ x.f0 ∧ x.f0 ≤ x.f1 ∧ x.f1 ≤ 1000 := by
  simp [badSpan] at h; omega
end
end
section
theorem name_prop (s : ByteArray) (v1 v2 v3 : Value) (w : World) : Calls Tryz.prog 40 #[.agg #[.string s, v1, v2, v3]] w fun e w' => e = .returned (.string s) ∧ Below w.heap.size w w' := by
  go_enter Tryz.func40, Tryz.ntmps40
  go_wp2
  go_ret
  exact ⟨rfl, below_alloc (Below.refl _ _) _⟩
theorem same_prop (B1 B2 B3 : Nat) (A : Option Addr) (c : Nat) (l : List S77) (i : Int) (x : S77) (Ax : Option Addr) (cx : Nat) (W : World)
    (h1 : W.cell? ⟨B1, 0, none⟩ = some (.func (.func 40) #[] #[])) (h2 : W.cell? ⟨B2, 0, none⟩ = some (.slice A l.length c)) (h3 : W.cell? ⟨B3, 0, none⟩ = some (.int .i64 i))
    (hr : Kd.C k77 W A l.length l) (hi0 : 0 ≤ i) (hi1 : i < l.length) :
    Calls Tryz.prog 89 #[.agg #[.string x.f0, .slice Ax x.f1.length cx, .int .i64 x.f2.f0, .int .i64 x.f2.f1], .pointer (some ⟨B1, 0, none⟩), .pointer (some ⟨B2, 0, none⟩), .pointer (some ⟨B3, 0, none⟩)] W fun e W' => e = .returned (.bool (x.f0.toList == (rd_T77 l i).f0.toList)) ∧ Below W.heap.size W W' := by
  obtain ⟨ad, Ay, cy, e, hc0, hc1, hc2, hc3, _, _⟩ := at_T77 hr i hi0 hi1
  cases e
  generalize rd_T77 l i = y at hc0 hc1 hc2 hc3 ⊢
  have b1 := World.block_lt_of_cell? W _ h1
  have b2 := World.block_lt_of_cell? W _ h2
  have b3 := World.block_lt_of_cell? W _ h3
  have b4 := World.block_lt_of_cell? W _ hc0
  simp only at b1 b2 b3 b4
  go_enter Tryz.func89, Tryz.ntmps89
  go_wp2_with fail
  go_region_held3 (fun w' => w'.cell? ⟨B1, 0, none⟩ = some (.func (.func 40) #[] #[]) ∧ w'.cell? ⟨B2, 0, none⟩ = some (.slice (some ad) l.length c) ∧ w'.cell? ⟨B3, 0, none⟩ = some (.int .i64 i) ∧ w'.cell? ⟨W.heap.size, 0, none⟩ = some (.string x.f0) ∧ w'.cell? ⟨W.heap.size, 1, none⟩ = some (.slice Ax x.f1.length cx) ∧ w'.cell? ⟨W.heap.size, 2, none⟩ = some (.int .i64 x.f2.f0) ∧ w'.cell? ⟨W.heap.size, 3, none⟩ = some (.int .i64 x.f2.f1) ∧ w'.cell? (ad.add (i.toNat * 4)) = some (.string y.f0) ∧ w'.cell? ⟨(ad.add (i.toNat * 4)).block, (ad.add (i.toNat * 4)).off + 1, none⟩ = some (.slice Ay y.f1.length cy) ∧ w'.cell? ⟨(ad.add (i.toNat * 4)).block, (ad.add (i.toNat * 4)).off + 2, none⟩ = some (.int .i64 y.f2.f0) ∧ w'.cell? ⟨(ad.add (i.toNat * 4)).block, (ad.add (i.toNat * 4)).off + 3, none⟩ = some (.int .i64 y.f2.f1)) (first | (simp [*, go_sem]; done) | (go_split_ands; refine ⟨?_, ?_, ?_, ?_, ?_, ?_, ?_, ?_, ?_, ?_, ?_⟩ <;> first | assumption | exact pw_cell_below hb (by assumption)))
    (first | (go_at_call 40; refine (name_prop _ _ _ _ _).mono ?_; rintro e w' ⟨rfl, hb⟩))
  all_goals
    go_wp2
    go_ret
    refine ⟨rfl, ?_⟩
    repeat (first | exact below_drew (below_alloc (Below.refl _ _) _) | refine below_trans' ?_ (by assumption))
def x_twiceP.f (l : List S77) (i : Int) : Option Bool := if 0 ≤ i then if i < l.length then some ((l.take i.toNat).any fun x => x.f0.toList == (rd_T77 l i).f0.toList) else none else none
theorem x_twiceP.calls (A0 : Option Addr) (c0 : Nat) (l0 : List S77) (a1 : Int) (r : Bool) (w : World) (hr0 : Kd.C k77 w A0 l0.length l0) (hc0 : l0.length ≤ c0) (h : x_twiceP.f l0 a1 = some r) :
    Calls Tryz.prog 39 #[.slice A0 l0.length c0, .int .i64 a1, .func (.func 40) #[] #[]] w fun e w' => e = .returned (.bool r) ∧ Below w.heap.size w w' := by
  unfold x_twiceP.f at h
  by_cases hi0 : 0 ≤ a1
  · rw [if_pos hi0] at h
    by_cases hi1 : a1 < l0.length
    · rw [if_pos hi1] at h
      have HR := Sd.mk (Option.some.inj h)
      have HC := Sd.mk hr0
      clear h hr0
      obtain ⟨i, rfl⟩ := Int.eq_ofNat_of_zero_le hi0
      have hi2 : i < l0.length := by omega
      have hi3 : ¬ (i : Int) > (c0 : Int) := by omega
      have hlen : (l0.take i).length = i := by simp; omega
      have HL := Sd.mk hlen
      have HK := fun (W : World) (B1 B2 B3 : Nat) (h1 : W.cell? ⟨B1, 0, none⟩ = some (.func (.func 40) #[] #[])) (h2 : W.cell? ⟨B2, 0, none⟩ = some (.slice A0 l0.length c0)) (h3 : W.cell? ⟨B3, 0, none⟩ = some (.int .i64 (i : Int))) (hb : Below w.heap.size w W) =>
        containsFunc_prop (fun x => x.f0.toList == (rd_T77 l0 (i : Int)).f0.toList) 89 #[.pointer (some ⟨B1, 0, none⟩), .pointer (some ⟨B2, 0, none⟩), .pointer (some ⟨B3, 0, none⟩)] (enters_of Tryz.func89 (by kernel_rfl) rfl)
          A0 c0 (l0.take i) W (Kd.C_below (Kd.C_take HC.out (by omega)) hb)
          (fun x _ Ax cx W' hb' => same_prop B1 B2 B3 A0 c0 l0 (i : Int) x Ax cx W' (pw_cell_below hb' h1) (pw_cell_below hb' h2) (pw_cell_below hb' h3) (Kd.C_below (Kd.C_below HC.out hb) hb') hi0 hi1)
      have HK' := Sd.mk HK
      clear HK hlen
      go_enter Tryz.func39, Tryz.ntmps39
      go_wp2_with fail
      have hc := HK'.out (((w.alloc (.cells #[.slice A0 l0.length c0] 25)).alloc (.cells #[.int .i64 (i : Int)] 3)).alloc (.cells #[.func (.func 40) #[] #[]] 80)) (w.heap.size + 1 + 1) w.heap.size (w.heap.size + 1) (by simp [go_sem]) (by simp [go_sem]) (by simp [go_sem]) (below_alloc (below_alloc (below_alloc (Below.refl _ _) _) _) _)
      rw [HL.out] at hc
      refine hc.mono ?_
      clear hc HK'
      rintro e w1 ⟨rfl, hb⟩
      go_wp2
      go_ret
      exact ⟨by rw [← HR.out]; rfl, below_trans' (below_alloc (below_alloc (below_alloc (Below.refl _ _) _) _) _) hb⟩
    · rw [if_neg hi1] at h; cases h
  · rw [if_neg hi0] at h; cases h
theorem name_mat (s : ByteArray) (v1 v2 v3 v4 v5 v6 : Value) (w : World) : Calls Tryz.prog 85 #[.agg #[.string s, v1, v2, v3, v4, v5, v6]] w fun e w' => e = .returned (.string s) ∧ Below w.heap.size w w' := by
  go_enter Tryz.func85, Tryz.ntmps85
  go_wp2
  go_ret
  exact ⟨rfl, below_alloc (Below.refl _ _) _⟩
theorem same_mat (B1 B2 B3 : Nat) (A : Option Addr) (c : Nat) (l : List S50) (i : Int) (x : S50) (Ax : Option Addr) (cx : Nat) (W : World)
    (h1 : W.cell? ⟨B1, 0, none⟩ = some (.func (.func 85) #[] #[])) (h2 : W.cell? ⟨B2, 0, none⟩ = some (.slice A l.length c)) (h3 : W.cell? ⟨B3, 0, none⟩ = some (.int .i64 i))
    (hr : Kd.C k50 W A l.length l) (hi0 : 0 ≤ i) (hi1 : i < l.length) :
    Calls Tryz.prog 125 #[.agg #[.string x.f0, .int .i64 x.f1, .int .i64 x.f2, .int .i64 x.f3, .int .i64 x.f4, .int .i64 x.f5, .slice Ax x.f6.length cx], .pointer (some ⟨B1, 0, none⟩), .pointer (some ⟨B2, 0, none⟩), .pointer (some ⟨B3, 0, none⟩)] W fun e W' => e = .returned (.bool (x.f0.toList == (rd_T50 l i).f0.toList)) ∧ Below W.heap.size W W' := by
  obtain ⟨ad, Ay, cy, e, hc0, hc1, hc2, hc3, hc4, hc5, hc6, _, _⟩ := at_T50 hr i hi0 hi1
  cases e
  generalize rd_T50 l i = y at hc0 hc1 hc2 hc3 hc4 hc5 hc6 ⊢
  have b1 := World.block_lt_of_cell? W _ h1
  have b2 := World.block_lt_of_cell? W _ h2
  have b3 := World.block_lt_of_cell? W _ h3
  have b4 := World.block_lt_of_cell? W _ hc0
  simp only at b1 b2 b3 b4
  go_enter Tryz.func125, Tryz.ntmps125
  go_wp2_with fail
  go_region_held3 (fun w' => w'.cell? ⟨B1, 0, none⟩ = some (.func (.func 85) #[] #[]) ∧ w'.cell? ⟨B2, 0, none⟩ = some (.slice (some ad) l.length c) ∧ w'.cell? ⟨B3, 0, none⟩ = some (.int .i64 i) ∧ w'.cell? ⟨W.heap.size, 0, none⟩ = some (.string x.f0) ∧ w'.cell? ⟨W.heap.size, 1, none⟩ = some (.int .i64 x.f1) ∧ w'.cell? ⟨W.heap.size, 2, none⟩ = some (.int .i64 x.f2) ∧ w'.cell? ⟨W.heap.size, 3, none⟩ = some (.int .i64 x.f3) ∧ w'.cell? ⟨W.heap.size, 4, none⟩ = some (.int .i64 x.f4) ∧ w'.cell? ⟨W.heap.size, 5, none⟩ = some (.int .i64 x.f5) ∧ w'.cell? ⟨W.heap.size, 6, none⟩ = some (.slice Ax x.f6.length cx) ∧ w'.cell? (ad.add (i.toNat * 7)) = some (.string y.f0) ∧ w'.cell? ⟨(ad.add (i.toNat * 7)).block, (ad.add (i.toNat * 7)).off + 1, none⟩ = some (.int .i64 y.f1) ∧ w'.cell? ⟨(ad.add (i.toNat * 7)).block, (ad.add (i.toNat * 7)).off + 2, none⟩ = some (.int .i64 y.f2) ∧ w'.cell? ⟨(ad.add (i.toNat * 7)).block, (ad.add (i.toNat * 7)).off + 3, none⟩ = some (.int .i64 y.f3) ∧ w'.cell? ⟨(ad.add (i.toNat * 7)).block, (ad.add (i.toNat * 7)).off + 4, none⟩ = some (.int .i64 y.f4) ∧ w'.cell? ⟨(ad.add (i.toNat * 7)).block, (ad.add (i.toNat * 7)).off + 5, none⟩ = some (.int .i64 y.f5) ∧ w'.cell? ⟨(ad.add (i.toNat * 7)).block, (ad.add (i.toNat * 7)).off + 6, none⟩ = some (.slice Ay y.f6.length cy)) (first | (simp [*, go_sem]; done) | (go_split_ands; refine ⟨?_, ?_, ?_, ?_, ?_, ?_, ?_, ?_, ?_, ?_, ?_, ?_, ?_, ?_, ?_, ?_, ?_⟩ <;> first | assumption | exact pw_cell_below hb (by assumption)))
    (first | (go_at_call 85; refine (name_mat _ _ _ _ _ _ _ _).mono ?_; rintro e w' ⟨rfl, hb⟩))
  all_goals
    go_wp2
    go_ret
    refine ⟨rfl, ?_⟩
    repeat (first | exact below_drew (below_alloc (Below.refl _ _) _) | refine below_trans' ?_ (by assumption))
def x_twiceM.f (l : List S50) (i : Int) : Option Bool := if 0 ≤ i then if i < l.length then some ((l.take i.toNat).any fun x => x.f0.toList == (rd_T50 l i).f0.toList) else none else none
theorem x_twiceM.calls (A0 : Option Addr) (c0 : Nat) (l0 : List S50) (a1 : Int) (r : Bool) (w : World) (hr0 : Kd.C k50 w A0 l0.length l0) (hc0 : l0.length ≤ c0) (h : x_twiceM.f l0 a1 = some r) :
    Calls Tryz.prog 84 #[.slice A0 l0.length c0, .int .i64 a1, .func (.func 85) #[] #[]] w fun e w' => e = .returned (.bool r) ∧ Below w.heap.size w w' := by
  unfold x_twiceM.f at h
  by_cases hi0 : 0 ≤ a1
  · rw [if_pos hi0] at h
    by_cases hi1 : a1 < l0.length
    · rw [if_pos hi1] at h
      have HR := Sd.mk (Option.some.inj h)
      have HC := Sd.mk hr0
      clear h hr0
      obtain ⟨i, rfl⟩ := Int.eq_ofNat_of_zero_le hi0
      have hi2 : i < l0.length := by omega
      have hi3 : ¬ (i : Int) > (c0 : Int) := by omega
      have hlen : (l0.take i).length = i := by simp; omega
      have HL := Sd.mk hlen
      have HK := fun (W : World) (B1 B2 B3 : Nat) (h1 : W.cell? ⟨B1, 0, none⟩ = some (.func (.func 85) #[] #[])) (h2 : W.cell? ⟨B2, 0, none⟩ = some (.slice A0 l0.length c0)) (h3 : W.cell? ⟨B3, 0, none⟩ = some (.int .i64 (i : Int))) (hb : Below w.heap.size w W) =>
        containsFunc_mat (fun x => x.f0.toList == (rd_T50 l0 (i : Int)).f0.toList) 125 #[.pointer (some ⟨B1, 0, none⟩), .pointer (some ⟨B2, 0, none⟩), .pointer (some ⟨B3, 0, none⟩)] (enters_of Tryz.func125 (by kernel_rfl) rfl)
          A0 c0 (l0.take i) W (Kd.C_below (Kd.C_take HC.out (by omega)) hb)
          (fun x _ Ax cx W' hb' => same_mat B1 B2 B3 A0 c0 l0 (i : Int) x Ax cx W' (pw_cell_below hb' h1) (pw_cell_below hb' h2) (pw_cell_below hb' h3) (Kd.C_below (Kd.C_below HC.out hb) hb') hi0 hi1)
      have HK' := Sd.mk HK
      clear HK hlen
      go_enter Tryz.func84, Tryz.ntmps84
      go_wp2_with fail
      have hc := HK'.out (((w.alloc (.cells #[.slice A0 l0.length c0] 23)).alloc (.cells #[.int .i64 (i : Int)] 3)).alloc (.cells #[.func (.func 85) #[] #[]] 131)) (w.heap.size + 1 + 1) w.heap.size (w.heap.size + 1) (by simp [go_sem]) (by simp [go_sem]) (by simp [go_sem]) (below_alloc (below_alloc (below_alloc (Below.refl _ _) _) _) _)
      rw [HL.out] at hc
      refine hc.mono ?_
      clear hc HK'
      rintro e w1 ⟨rfl, hb⟩
      go_wp2
      go_ret
      exact ⟨by rw [← HR.out]; rfl, below_trans' (below_alloc (below_alloc (below_alloc (Below.refl _ _) _) _) _) hb⟩
    · rw [if_neg hi1] at h; cases h
  · rw [if_neg hi0] at h; cases h
end
section
def b_checkMaterials.l0 : Nat → List (S50) → Int → Int → List ByteArray → List (S50) → List (S27) → List (S77) → Int → Int → Int → Option (Int)
 | 0, _, _, _, _, _, _, _, _, _, _ => none
 | k + 1, x17, x18, x19, x136q0, x136q1, x136q2, x136q3, x136q4, x136q5, x136q6 => if x19 < x18 then (if 0 ≤ x19 then (if x19 < (x17.length : Int) then ((b_name.f k ((rd_T50 x17 x19).f0)).bind fun t138 => (if t138 = true then ((x_twiceM.f x136q1 x19).bind fun t139 => (if t139 = true then (some 6) else ((b_checkMaterial.f k x136q0 x136q1 x136q2 x136q3 x136q4 x136q5 x136q6 ((rd_T50 x17 x19).f0) ((rd_T50 x17 x19).f1) ((rd_T50 x17 x19).f2) ((rd_T50 x17 x19).f3) ((rd_T50 x17 x19).f4) ((rd_T50 x17 x19).f5) ((rd_T50 x17 x19).f6)).bind fun t140 => (if t140 = 0 then (b_checkMaterials.l0 k x17 x18 (wrap64 (x19 + 1)) x136q0 x136q1 x136q2 x136q3 x136q4 x136q5 x136q6) else (some t140))))) else (some 5))) else (none)) else (none)) else (some 0)
def b_checkMaterials.f (k : Nat) (l0_0 : List ByteArray) (l0_1 : List (S50)) (l0_2 : List (S27)) (l0_3 : List (S77)) (a0_4 : Int) (a0_5 : Int) (a0_6 : Int) : Option (Int) := if (l0_1.length : Int) > 12 then (some 3) else (if (l0_1.length : Int) = 0 then (some 1) else (b_checkMaterials.l0 k l0_1 (l0_1.length : Int) 0 l0_0 l0_1 l0_2 l0_3 a0_4 a0_5 a0_6))
theorem b_checkMaterials.calls (k : Nat) (A0_0 : Option Addr) (c0_0 : Nat) (l0_0 : List ByteArray) (A0_1 : Option Addr) (c0_1 : Nat) (l0_1 : List (S50)) (A0_2 : Option Addr) (c0_2 : Nat) (l0_2 : List (S27)) (A0_3 : Option Addr) (c0_3 : Nat) (l0_3 : List (S77)) (a0_4 : Int) (a0_5 : Int) (a0_6 : Int) (r : Int) (w : World) (hr0_0 : Kd.C Kd.string w A0_0 l0_0.length l0_0) (hc0_0 : l0_0.length ≤ c0_0) (hr0_1 : Kd.C k50 w A0_1 l0_1.length l0_1) (hc0_1 : l0_1.length ≤ c0_1) (hr0_2 : Kd.C k27 w A0_2 l0_2.length l0_2) (hc0_2 : l0_2.length ≤ c0_2) (hr0_3 : Kd.C k77 w A0_3 l0_3.length l0_3) (hc0_3 : l0_3.length ≤ c0_3) (h : b_checkMaterials.f k l0_0 l0_1 l0_2 l0_3 a0_4 a0_5 a0_6 = some r) :
  Calls Tryz.prog 34 #[.agg #[.slice A0_0 l0_0.length c0_0, .slice A0_1 l0_1.length c0_1, .slice A0_2 l0_2.length c0_2, .slice A0_3 l0_3.length c0_3, .int .i64 a0_4, .int .i64 a0_5, .int .i64 a0_6]] w fun e w' => e = .returned (.int .i64 r) ∧ Below w.heap.size w w' := by
 have hu29 := Tryz.underlying29; have hu50 := Tryz.underlying50; have HR0_0 := Sd.mk hr0_0; have HC0_0 := Sd.mk hc0_0; clear hr0_0 hc0_0; have HR0_1 := Sd.mk hr0_1; have HC0_1 := Sd.mk hc0_1; clear hr0_1 hc0_1; have HR0_2 := Sd.mk hr0_2; have HC0_2 := Sd.mk hc0_2; clear hr0_2 hc0_2; have HR0_3 := Sd.mk hr0_3; have HC0_3 := Sd.mk hc0_3; clear hr0_3 hc0_3; have HB := Sd.mk (Below.refl w.heap.size w)
 have H : (if (l0_1.length : Int) > 12 then (some 3) else (if (l0_1.length : Int) = 0 then (some 1) else (b_checkMaterials.l0 k l0_1 (l0_1.length : Int) 0 l0_0 l0_1 l0_2 l0_3 a0_4 a0_5 a0_6))) = some r := h
 clear h
 by_cases c2 : (l0_1.length : Int) > 12
 ·rw [if_pos c2] at H
  have c2b0 : decide (12 < (l0_1.length : Int)) = true := decide_eq_true c2
  have c2b1 : decide (12 < l0_1.length) = true := decide_eq_true (by omega)
  clear c2; obtain rfl := Option.some.inj H
  go_enter Tryz.func34, Tryz.ntmps34
  go_wp2_with (first | ((with_reducible refine gate_dst (N := 1) rfl ?_); refine box_event ?hg (N := 1) ?hd (cs := #[.slice A0_0 l0_0.length c0_0, .slice A0_1 l0_1.length c0_1, .slice A0_2 l0_2.length c0_2, .slice A0_3 l0_3.length c0_3, .int .i64 a0_4, .int .i64 a0_5, .int .i64 a0_6]) (t := 29) ?hr ?_; (case hd => rfl); (case hg => rfl); (case hr => exact tG); intro gb135 hg w3 hbox hb; have BK135 := Sd.mk (hbox); have GW135 := Sd.mk (bSz hg (bBl HB.out)); have GE135 := Sd.mk (bSz hg (bBl HB.out)); replace HB := Sd.mk (below_step (bBl HB.out) hb); clear hb hbox hg; obtain ⟨u4_0, u4_1, u4_2, u4_3, u4_4, u4_5, u4_6, o4_0, o4_1, o4_2, o4_3, o4_4, o4_5, o4_6⟩ := bc7 (w := w3) BK135.out))
  go_ret
  exact ⟨tE, bBl HB.out⟩
 ·rw [if_neg c2] at H
  have c2b0 : decide (12 < (l0_1.length : Int)) = false := decide_eq_false c2
  have c2b1 : decide (12 < l0_1.length) = false := decide_eq_false (by omega)
  clear c2
  by_cases c5 : (l0_1.length : Int) = 0
  ·rw [if_pos c5] at H
   have c5b0 : ((l0_1.length : Int) == 0) = true := beq_iff_eq.mpr c5
   have c5b1 : ((l0_1.length : Int) != 0) = false := bne_eq_false_iff_eq.mpr c5
   clear c5; obtain rfl := Option.some.inj H
   go_enter Tryz.func34, Tryz.ntmps34
   go_wp2_with (first | ((with_reducible refine gate_dst (N := 1) rfl ?_); refine box_event ?hg (N := 1) ?hd (cs := #[.slice A0_0 l0_0.length c0_0, .slice A0_1 l0_1.length c0_1, .slice A0_2 l0_2.length c0_2, .slice A0_3 l0_3.length c0_3, .int .i64 a0_4, .int .i64 a0_5, .int .i64 a0_6]) (t := 29) ?hr ?_; (case hd => rfl); (case hg => rfl); (case hr => exact tG); intro gb135 hg w6 hbox hb; have BK135 := Sd.mk (hbox); have GW135 := Sd.mk (bSz hg (bBl HB.out)); have GE135 := Sd.mk (bSz hg (bBl HB.out)); replace HB := Sd.mk (below_step (bBl HB.out) hb); clear hb hbox hg; obtain ⟨u7_0, u7_1, u7_2, u7_3, u7_4, u7_5, u7_6, o7_0, o7_1, o7_2, o7_3, o7_4, o7_5, o7_6⟩ := bc7 (w := w6) BK135.out))
   go_ret
   exact ⟨tE, bBl HB.out⟩
  ·rw [if_neg c5] at H
   have c5b0 : ((l0_1.length : Int) == 0) = false := beq_eq_false_iff_ne.mpr c5
   have c5b1 : ((l0_1.length : Int) != 0) = true := bne_iff_ne.mpr c5
   have c5b2 : ¬ (l0_1 = []) := fun h_ => c5 (by rw [h_]; rfl)
   have H' := Sd.mk H; clear H
   go_enter Tryz.func34, Tryz.ntmps34
   go_wp2_with (first | ((with_reducible refine gate_dst (N := 1) rfl ?_); refine box_event ?hg (N := 1) ?hd (cs := #[.slice A0_0 l0_0.length c0_0, .slice A0_1 l0_1.length c0_1, .slice A0_2 l0_2.length c0_2, .slice A0_3 l0_3.length c0_3, .int .i64 a0_4, .int .i64 a0_5, .int .i64 a0_6]) (t := 29) ?hr ?_; (case hd => rfl); (case hg => rfl); (case hr => exact tG); intro gb135 hg w8 hbox hb; have BK135 := Sd.mk (hbox); have GW135 := Sd.mk (bSz hg (bBl HB.out)); have GE135 := Sd.mk (bSz hg (bBl HB.out)); replace HB := Sd.mk (below_step (bBl HB.out) hb); clear hb hbox hg; obtain ⟨u9_0, u9_1, u9_2, u9_3, u9_4, u9_5, u9_6, o9_0, o9_1, o9_2, o9_3, o9_4, o9_5, o9_6⟩ := bc7 (w := w8) BK135.out))
   go_loopg [19] k (fun kq v19 w' => ∃ (x19_1 : Int), v19 = .int .i64 x19_1 ∧ Sd (b_checkMaterials.l0 kq l0_1 (l0_1.length : Int) x19_1 l0_0 l0_1 l0_2 l0_3 a0_4 a0_5 a0_6 = some r) ∧ Sd (kq ≤ k) ∧ Sd (w'.heap[gb135]? = some (.cells #[(.slice A0_0 l0_0.length c0_0), (.slice A0_1 l0_1.length c0_1), (.slice A0_2 l0_2.length c0_2), (.slice A0_3 l0_3.length c0_3), .int .i64 a0_4, .int .i64 a0_5, .int .i64 a0_6] 29 (0, 0))) ∧ Sd (Below w.heap.size w w'))
   case atStart => exact ⟨(0), tS, H', ⟨Nat.le_refl _⟩, ⟨bkA BK135.out⟩, ⟨bBl HB.out⟩⟩
   case round =>
    clear H'; (try clear c2); (try clear c2b0); (try clear c2b1); (try clear p2); (try clear c3); (try clear c5); (try clear c5b0); (try clear c5b1); (try clear c5b2); (try clear u4_0 u4_1 u4_2 u4_3 u4_4 u4_5 u4_6); (try clear u7_0 u7_1 u7_2 u7_3 u7_4 u7_5 u7_6); (try clear u9_0 u9_1 u9_2 u9_3 u9_4 u9_5 u9_6); (try clear o4_0 o4_1 o4_2 o4_3 o4_4 o4_5 o4_6); (try clear o7_0 o7_1 o7_2 o7_3 o7_4 o7_5 o7_6); (try clear o9_0 o9_1 o9_2 o9_3 o9_4 o9_5 o9_6); obtain ⟨x19_1, rfl, HA, HK1, BK135, HB⟩ := hrel
    cases gk with
    | zero => exact absurd HA.out (by simp [b_checkMaterials.l0])
    | succ k1 =>
     have H := HA.out; clear HA
     simp only [b_checkMaterials.l0] at H
     by_cases c10 : x19_1 < (l0_1.length : Int)
     ·rw [if_pos c10] at H
      have c10b0 : decide (x19_1 < (l0_1.length : Int)) = true := decide_eq_true c10
      clear c10
      by_cases c11 : 0 ≤ x19_1
      ·rw [if_pos c11] at H
       have c11b0 : decide (0 ≤ x19_1) = true := decide_eq_true c11
       clear c11
       by_cases c12 : x19_1 < (l0_1.length : Int)
       ·rw [if_pos c12] at H
        have c12b0 : decide (x19_1 < (l0_1.length : Int)) = true := decide_eq_true c12
        clear c12; replace H := Option.bind_eq_some_iff.mp H; obtain ⟨t138, A130, H⟩ := H
        try dsimp only at H
        have A13 := Sd.mk A130; clear A130
        by_cases c14 : t138 = true
        ·subst c14
         have H1 : ((x_twiceM.f l0_1 x19_1).bind fun t139 => (if t139 = true then (some 6) else ((b_checkMaterial.f k1 l0_0 l0_1 l0_2 l0_3 a0_4 a0_5 a0_6 ((rd_T50 l0_1 x19_1).f0) ((rd_T50 l0_1 x19_1).f1) ((rd_T50 l0_1 x19_1).f2) ((rd_T50 l0_1 x19_1).f3) ((rd_T50 l0_1 x19_1).f4) ((rd_T50 l0_1 x19_1).f5) ((rd_T50 l0_1 x19_1).f6)).bind fun t140 => (if t140 = 0 then (b_checkMaterials.l0 k1 l0_1 (l0_1.length : Int) (wrap64 (x19_1 + 1)) l0_0 l0_1 l0_2 l0_3 a0_4 a0_5 a0_6) else (some t140))))) = some r := by rw [if_pos rfl] at H; exact H
         clear H; have H := H1; clear H1; replace H := Option.bind_eq_some_iff.mp H; obtain ⟨t139, A150, H⟩ := H
         try dsimp only at H
         have A15 := Sd.mk A150; clear A150
         by_cases c16 : t139 = true
         ·subst c16
          have H1 : (some 6) = some r := by rw [if_pos rfl] at H; exact H
          clear H; have H := H1; clear H1; obtain rfl := Option.some.inj H
          have p136 : 0 ≤ (x19_1 : Int) := tB
          have q136 : x19_1 < (l0_1.length : Int) := tB
          obtain ⟨ad136, A136_6, c136_6, e136, hx136_0, hx136_1, hx136_2, hx136_3, hx136_4, hx136_5, hx136_6, hl136_6, hi136_6⟩ := at_T50 HR0_1.out x19_1 p136 q136; cases e136; replace hx136_0 := cU HB hx136_0; replace hx136_1 := cU HB hx136_1; replace hx136_2 := cU HB hx136_2; replace hx136_3 := cU HB hx136_3; replace hx136_4 := cU HB hx136_4; replace hx136_5 := cU HB hx136_5; replace hx136_6 := cU HB hx136_6; have HR136_6 := Sd.mk hi136_6; have HC136_6 := Sd.mk hl136_6; clear hi136_6 hl136_6; replace p136 := eq_true p136; replace q136 := eq_true q136
          go_wp2_with (first | ((with_reducible refine gate_dst (N := 4) rfl ?_); refine box_event ?hg (N := 4) ?hd (cs := #[.string (⟨#[]⟩ : ByteArray), .int .i64 0, .int .i64 0, .int .i64 0, .int .i64 0, .int .i64 0, .slice none 0 0]) (t := 50) ?hr ?_; (case hd => rfl); (case hg => rfl); (case hr => exact tG); intro gb137 hg w17 hbox hb; have BK137 := Sd.mk (hbox); have GW137 := Sd.mk (bSz hg (bBl HB.out)); have GE137 := Sd.mk (bSz hg (bBl HB.out)); replace HB := Sd.mk (below_step (bBl HB.out) hb); have NB135_137 := Sd.mk (bNl hg (bkA BK135.out)); have NB137_135 := Sd.mk (bNg hg (bkA BK135.out)); replace BK135 := Sd.mk (blk_below (bkA BK135.out) hb); clear hb hbox hg; have hnb18 := NB137_135.out; have hnc18 := NB135_137.out; obtain ⟨u19_0, u19_1, u19_2, u19_3, u19_4, u19_5, u19_6, o19_0, o19_1, o19_2, o19_3, o19_4, o19_5, o19_6⟩ := bc7 (w := w17) BK137.out) | ((with_reducible refine gate_callee (f := 38) rfl ?_); refine goesL_ (some 27) rfl rfl Tryz.func38 (by kernel_rfl) rfl #[.string ((rd_T50 l0_1 x19_1).f0)] rfl tM ?_; (with_reducible refine (b_name.calls k1 ((rd_T50 l0_1 x19_1).f0) true _ A13.out).mono ?_); rintro e w' ⟨rfl, ⟨nd, rfl⟩⟩; refine ⟨_, rfl, ?_⟩; obtain ⟨u20_0, u20_1, u20_2, u20_3, u20_4, u20_5, u20_6, o20_0, o20_1, o20_2, o20_3, o20_4, o20_5, o20_6⟩ := bc7 (w := w17) BK135.out) | ((with_reducible refine gate_callee (f := 84) rfl ?_); refine goesL_ (some 33) rfl rfl Tryz.func84 (by kernel_rfl) rfl #[.slice (some ad136) l0_1.length c0_1, .int .i64 x19_1, .func (.func 85) #[] #[]] rfl tM ?_; (with_reducible refine (x_twiceM.calls _ _ l0_1 x19_1 true _ (Kd.C_below HR0_1.out (bBl HB.out)) HC0_1.out A15.out).mono ?_); rintro e w21 ⟨rfl, hb⟩; refine ⟨_, rfl, ?_⟩; replace BK135 := Sd.mk (blk_below (g := gb135) (o := .cells #[.slice A0_0 l0_0.length c0_0, .slice (some ad136) l0_1.length c0_1, .slice A0_2 l0_2.length c0_2, .slice A0_3 l0_3.length c0_3, .int .i64 a0_4, .int .i64 a0_5, .int .i64 a0_6] 29 (0, 0)) (by (with_reducible repeat (first | refine blk_drewN ?_ _ | refine blk_drew ?_ | refine blk_alloc ?_ _)); refine blk_far ?_ NB135_137.out _; (with_reducible repeat (first | refine blk_drewN ?_ _ | refine blk_drew ?_ | refine blk_alloc ?_ _)); refine blk_far ?_ NB135_137.out _; (with_reducible repeat (first | refine blk_drewN ?_ _ | refine blk_drew ?_ | refine blk_alloc ?_ _)); refine blk_far ?_ NB135_137.out _; (with_reducible repeat (first | refine blk_drewN ?_ _ | refine blk_drew ?_ | refine blk_alloc ?_ _)); refine blk_far ?_ NB135_137.out _; (with_reducible repeat (first | refine blk_drewN ?_ _ | refine blk_drew ?_ | refine blk_alloc ?_ _)); refine blk_far ?_ NB135_137.out _; (with_reducible repeat (first | refine blk_drewN ?_ _ | refine blk_drew ?_ | refine blk_alloc ?_ _)); refine blk_far ?_ NB135_137.out _; (with_reducible repeat (first | refine blk_drewN ?_ _ | refine blk_drew ?_ | refine blk_alloc ?_ _)); refine blk_far ?_ NB135_137.out _; (with_reducible repeat (first | refine blk_drewN ?_ _ | refine blk_drew ?_ | refine blk_alloc ?_ _)); exact BK135.out) hb); replace BK137 := Sd.mk (blk_below (g := gb137) (o := .cells #[.string ((rd_T50 l0_1 x19_1).f0), .int .i64 ((rd_T50 l0_1 x19_1).f1), .int .i64 ((rd_T50 l0_1 x19_1).f2), .int .i64 ((rd_T50 l0_1 x19_1).f3), .int .i64 ((rd_T50 l0_1 x19_1).f4), .int .i64 ((rd_T50 l0_1 x19_1).f5), .slice A136_6 ((rd_T50 l0_1 x19_1).f6).length c136_6] 50 (0, 0)) (by (with_reducible repeat (first | refine blk_drewN ?_ _ | refine blk_drew ?_ | refine blk_alloc ?_ _)); refine blk_put (cs := #[.string ((rd_T50 l0_1 x19_1).f0), .int .i64 ((rd_T50 l0_1 x19_1).f1), .int .i64 ((rd_T50 l0_1 x19_1).f2), .int .i64 ((rd_T50 l0_1 x19_1).f3), .int .i64 ((rd_T50 l0_1 x19_1).f4), .int .i64 ((rd_T50 l0_1 x19_1).f5), .slice none 0 0]) ?_ 6 _ rfl; (with_reducible repeat (first | refine blk_drewN ?_ _ | refine blk_drew ?_ | refine blk_alloc ?_ _)); refine blk_put (cs := #[.string ((rd_T50 l0_1 x19_1).f0), .int .i64 ((rd_T50 l0_1 x19_1).f1), .int .i64 ((rd_T50 l0_1 x19_1).f2), .int .i64 ((rd_T50 l0_1 x19_1).f3), .int .i64 ((rd_T50 l0_1 x19_1).f4), .int .i64 0, .slice none 0 0]) ?_ 5 _ rfl; (with_reducible repeat (first | refine blk_drewN ?_ _ | refine blk_drew ?_ | refine blk_alloc ?_ _)); refine blk_put (cs := #[.string ((rd_T50 l0_1 x19_1).f0), .int .i64 ((rd_T50 l0_1 x19_1).f1), .int .i64 ((rd_T50 l0_1 x19_1).f2), .int .i64 ((rd_T50 l0_1 x19_1).f3), .int .i64 0, .int .i64 0, .slice none 0 0]) ?_ 4 _ rfl; (with_reducible repeat (first | refine blk_drewN ?_ _ | refine blk_drew ?_ | refine blk_alloc ?_ _)); refine blk_put (cs := #[.string ((rd_T50 l0_1 x19_1).f0), .int .i64 ((rd_T50 l0_1 x19_1).f1), .int .i64 ((rd_T50 l0_1 x19_1).f2), .int .i64 0, .int .i64 0, .int .i64 0, .slice none 0 0]) ?_ 3 _ rfl; (with_reducible repeat (first | refine blk_drewN ?_ _ | refine blk_drew ?_ | refine blk_alloc ?_ _)); refine blk_put (cs := #[.string ((rd_T50 l0_1 x19_1).f0), .int .i64 ((rd_T50 l0_1 x19_1).f1), .int .i64 0, .int .i64 0, .int .i64 0, .int .i64 0, .slice none 0 0]) ?_ 2 _ rfl; (with_reducible repeat (first | refine blk_drewN ?_ _ | refine blk_drew ?_ | refine blk_alloc ?_ _)); refine blk_put (cs := #[.string ((rd_T50 l0_1 x19_1).f0), .int .i64 0, .int .i64 0, .int .i64 0, .int .i64 0, .int .i64 0, .slice none 0 0]) ?_ 1 _ rfl; (with_reducible repeat (first | refine blk_drewN ?_ _ | refine blk_drew ?_ | refine blk_alloc ?_ _)); refine blk_put (cs := #[.string (⟨#[]⟩ : ByteArray), .int .i64 0, .int .i64 0, .int .i64 0, .int .i64 0, .int .i64 0, .slice none 0 0]) ?_ 0 _ rfl; (with_reducible repeat (first | refine blk_drewN ?_ _ | refine blk_drew ?_ | refine blk_alloc ?_ _)); exact BK137.out) hb); replace HB := Sd.mk (below_step (bBl HB.out) hb); (try clear hb); (try clear hb2); (try clear hk); (try clear hi)))
          go_ret
          exact ⟨tE, bBl HB.out⟩
         ·replace c16 := Bool.eq_false_iff.mpr c16
          subst c16
          have H1 : ((b_checkMaterial.f k1 l0_0 l0_1 l0_2 l0_3 a0_4 a0_5 a0_6 ((rd_T50 l0_1 x19_1).f0) ((rd_T50 l0_1 x19_1).f1) ((rd_T50 l0_1 x19_1).f2) ((rd_T50 l0_1 x19_1).f3) ((rd_T50 l0_1 x19_1).f4) ((rd_T50 l0_1 x19_1).f5) ((rd_T50 l0_1 x19_1).f6)).bind fun t140 => (if t140 = 0 then (b_checkMaterials.l0 k1 l0_1 (l0_1.length : Int) (wrap64 (x19_1 + 1)) l0_0 l0_1 l0_2 l0_3 a0_4 a0_5 a0_6) else (some t140))) = some r := by rw [if_neg (show ¬ (false = true) by decide)] at H; exact H
          clear H; have H := H1; clear H1; replace H := Option.bind_eq_some_iff.mp H; obtain ⟨t140, A220, H⟩ := H
          try dsimp only at H
          have A22 := Sd.mk A220; clear A220
          by_cases c23 : t140 = 0
          ·rw [if_pos c23] at H
           have c23b0 : (t140 == 0) = true := beq_iff_eq.mpr c23
           have c23b1 : (t140 != 0) = false := bne_eq_false_iff_eq.mpr c23
           clear c23; have H' := Sd.mk H; clear H
           have p136 : 0 ≤ (x19_1 : Int) := tB
           have q136 : x19_1 < (l0_1.length : Int) := tB
           obtain ⟨ad136, A136_6, c136_6, e136, hx136_0, hx136_1, hx136_2, hx136_3, hx136_4, hx136_5, hx136_6, hl136_6, hi136_6⟩ := at_T50 HR0_1.out x19_1 p136 q136; cases e136; replace hx136_0 := cU HB hx136_0; replace hx136_1 := cU HB hx136_1; replace hx136_2 := cU HB hx136_2; replace hx136_3 := cU HB hx136_3; replace hx136_4 := cU HB hx136_4; replace hx136_5 := cU HB hx136_5; replace hx136_6 := cU HB hx136_6; have HR136_6 := Sd.mk hi136_6; have HC136_6 := Sd.mk hl136_6; clear hi136_6 hl136_6; replace p136 := eq_true p136; replace q136 := eq_true q136
           go_wp2_with (first | ((with_reducible refine gate_dst (N := 4) rfl ?_); refine box_event ?hg (N := 4) ?hd (cs := #[.string (⟨#[]⟩ : ByteArray), .int .i64 0, .int .i64 0, .int .i64 0, .int .i64 0, .int .i64 0, .slice none 0 0]) (t := 50) ?hr ?_; (case hd => rfl); (case hg => rfl); (case hr => exact tG); intro gb137 hg w24 hbox hb; have BK137 := Sd.mk (hbox); have GW137 := Sd.mk (bSz hg (bBl HB.out)); have GE137 := Sd.mk (bSz hg (bBl HB.out)); replace HB := Sd.mk (below_step (bBl HB.out) hb); have NB135_137 := Sd.mk (bNl hg (bkA BK135.out)); have NB137_135 := Sd.mk (bNg hg (bkA BK135.out)); replace BK135 := Sd.mk (blk_below (bkA BK135.out) hb); clear hb hbox hg; have hnb25 := NB137_135.out; have hnc25 := NB135_137.out; obtain ⟨u26_0, u26_1, u26_2, u26_3, u26_4, u26_5, u26_6, o26_0, o26_1, o26_2, o26_3, o26_4, o26_5, o26_6⟩ := bc7 (w := w24) BK137.out) | ((with_reducible refine gate_callee (f := 38) rfl ?_); refine goesL_ (some 27) rfl rfl Tryz.func38 (by kernel_rfl) rfl #[.string ((rd_T50 l0_1 x19_1).f0)] rfl tM ?_; (with_reducible refine (b_name.calls k1 ((rd_T50 l0_1 x19_1).f0) true _ A13.out).mono ?_); rintro e w' ⟨rfl, ⟨nd, rfl⟩⟩; refine ⟨_, rfl, ?_⟩; obtain ⟨u27_0, u27_1, u27_2, u27_3, u27_4, u27_5, u27_6, o27_0, o27_1, o27_2, o27_3, o27_4, o27_5, o27_6⟩ := bc7 (w := w24) BK135.out) | ((with_reducible refine gate_callee (f := 84) rfl ?_); refine goesL_ (some 33) rfl rfl Tryz.func84 (by kernel_rfl) rfl #[.slice (some ad136) l0_1.length c0_1, .int .i64 x19_1, .func (.func 85) #[] #[]] rfl tM ?_; (with_reducible refine (x_twiceM.calls _ _ l0_1 x19_1 false _ (Kd.C_below HR0_1.out (bBl HB.out)) HC0_1.out A15.out).mono ?_); rintro e w28 ⟨rfl, hb⟩; refine ⟨_, rfl, ?_⟩; replace BK135 := Sd.mk (blk_below (g := gb135) (o := .cells #[.slice A0_0 l0_0.length c0_0, .slice (some ad136) l0_1.length c0_1, .slice A0_2 l0_2.length c0_2, .slice A0_3 l0_3.length c0_3, .int .i64 a0_4, .int .i64 a0_5, .int .i64 a0_6] 29 (0, 0)) (by (with_reducible repeat (first | refine blk_drewN ?_ _ | refine blk_drew ?_ | refine blk_alloc ?_ _)); refine blk_far ?_ NB135_137.out _; (with_reducible repeat (first | refine blk_drewN ?_ _ | refine blk_drew ?_ | refine blk_alloc ?_ _)); refine blk_far ?_ NB135_137.out _; (with_reducible repeat (first | refine blk_drewN ?_ _ | refine blk_drew ?_ | refine blk_alloc ?_ _)); refine blk_far ?_ NB135_137.out _; (with_reducible repeat (first | refine blk_drewN ?_ _ | refine blk_drew ?_ | refine blk_alloc ?_ _)); refine blk_far ?_ NB135_137.out _; (with_reducible repeat (first | refine blk_drewN ?_ _ | refine blk_drew ?_ | refine blk_alloc ?_ _)); refine blk_far ?_ NB135_137.out _; (with_reducible repeat (first | refine blk_drewN ?_ _ | refine blk_drew ?_ | refine blk_alloc ?_ _)); refine blk_far ?_ NB135_137.out _; (with_reducible repeat (first | refine blk_drewN ?_ _ | refine blk_drew ?_ | refine blk_alloc ?_ _)); refine blk_far ?_ NB135_137.out _; (with_reducible repeat (first | refine blk_drewN ?_ _ | refine blk_drew ?_ | refine blk_alloc ?_ _)); exact BK135.out) hb); replace BK137 := Sd.mk (blk_below (g := gb137) (o := .cells #[.string ((rd_T50 l0_1 x19_1).f0), .int .i64 ((rd_T50 l0_1 x19_1).f1), .int .i64 ((rd_T50 l0_1 x19_1).f2), .int .i64 ((rd_T50 l0_1 x19_1).f3), .int .i64 ((rd_T50 l0_1 x19_1).f4), .int .i64 ((rd_T50 l0_1 x19_1).f5), .slice A136_6 ((rd_T50 l0_1 x19_1).f6).length c136_6] 50 (0, 0)) (by (with_reducible repeat (first | refine blk_drewN ?_ _ | refine blk_drew ?_ | refine blk_alloc ?_ _)); refine blk_put (cs := #[.string ((rd_T50 l0_1 x19_1).f0), .int .i64 ((rd_T50 l0_1 x19_1).f1), .int .i64 ((rd_T50 l0_1 x19_1).f2), .int .i64 ((rd_T50 l0_1 x19_1).f3), .int .i64 ((rd_T50 l0_1 x19_1).f4), .int .i64 ((rd_T50 l0_1 x19_1).f5), .slice none 0 0]) ?_ 6 _ rfl; (with_reducible repeat (first | refine blk_drewN ?_ _ | refine blk_drew ?_ | refine blk_alloc ?_ _)); refine blk_put (cs := #[.string ((rd_T50 l0_1 x19_1).f0), .int .i64 ((rd_T50 l0_1 x19_1).f1), .int .i64 ((rd_T50 l0_1 x19_1).f2), .int .i64 ((rd_T50 l0_1 x19_1).f3), .int .i64 ((rd_T50 l0_1 x19_1).f4), .int .i64 0, .slice none 0 0]) ?_ 5 _ rfl; (with_reducible repeat (first | refine blk_drewN ?_ _ | refine blk_drew ?_ | refine blk_alloc ?_ _)); refine blk_put (cs := #[.string ((rd_T50 l0_1 x19_1).f0), .int .i64 ((rd_T50 l0_1 x19_1).f1), .int .i64 ((rd_T50 l0_1 x19_1).f2), .int .i64 ((rd_T50 l0_1 x19_1).f3), .int .i64 0, .int .i64 0, .slice none 0 0]) ?_ 4 _ rfl; (with_reducible repeat (first | refine blk_drewN ?_ _ | refine blk_drew ?_ | refine blk_alloc ?_ _)); refine blk_put (cs := #[.string ((rd_T50 l0_1 x19_1).f0), .int .i64 ((rd_T50 l0_1 x19_1).f1), .int .i64 ((rd_T50 l0_1 x19_1).f2), .int .i64 0, .int .i64 0, .int .i64 0, .slice none 0 0]) ?_ 3 _ rfl; (with_reducible repeat (first | refine blk_drewN ?_ _ | refine blk_drew ?_ | refine blk_alloc ?_ _)); refine blk_put (cs := #[.string ((rd_T50 l0_1 x19_1).f0), .int .i64 ((rd_T50 l0_1 x19_1).f1), .int .i64 0, .int .i64 0, .int .i64 0, .int .i64 0, .slice none 0 0]) ?_ 2 _ rfl; (with_reducible repeat (first | refine blk_drewN ?_ _ | refine blk_drew ?_ | refine blk_alloc ?_ _)); refine blk_put (cs := #[.string ((rd_T50 l0_1 x19_1).f0), .int .i64 0, .int .i64 0, .int .i64 0, .int .i64 0, .int .i64 0, .slice none 0 0]) ?_ 1 _ rfl; (with_reducible repeat (first | refine blk_drewN ?_ _ | refine blk_drew ?_ | refine blk_alloc ?_ _)); refine blk_put (cs := #[.string (⟨#[]⟩ : ByteArray), .int .i64 0, .int .i64 0, .int .i64 0, .int .i64 0, .int .i64 0, .slice none 0 0]) ?_ 0 _ rfl; (with_reducible repeat (first | refine blk_drewN ?_ _ | refine blk_drew ?_ | refine blk_alloc ?_ _)); exact BK137.out) hb); replace HB := Sd.mk (below_step (bBl HB.out) hb); (try clear hb); (try clear hb2); (try clear hk); (try clear hi); obtain ⟨u29_0, u29_1, u29_2, u29_3, u29_4, u29_5, u29_6, o29_0, o29_1, o29_2, o29_3, o29_4, o29_5, o29_6⟩ := bc7 (w := w28) BK135.out; obtain ⟨u30_0, u30_1, u30_2, u30_3, u30_4, u30_5, u30_6, o30_0, o30_1, o30_2, o30_3, o30_4, o30_5, o30_6⟩ := bc7 (w := w28) BK137.out) | ((with_reducible refine gate_callee (f := 86) rfl ?_); refine goesL_ (some 36) rfl rfl Tryz.func86 (by kernel_rfl) rfl #[.agg #[.slice A0_0 l0_0.length c0_0, .slice (some ad136) l0_1.length c0_1, .slice A0_2 l0_2.length c0_2, .slice A0_3 l0_3.length c0_3, .int .i64 a0_4, .int .i64 a0_5, .int .i64 a0_6], .agg #[.string ((rd_T50 l0_1 x19_1).f0), .int .i64 ((rd_T50 l0_1 x19_1).f1), .int .i64 ((rd_T50 l0_1 x19_1).f2), .int .i64 ((rd_T50 l0_1 x19_1).f3), .int .i64 ((rd_T50 l0_1 x19_1).f4), .int .i64 ((rd_T50 l0_1 x19_1).f5), .slice A136_6 ((rd_T50 l0_1 x19_1).f6).length c136_6]] rfl tM ?_; (with_reducible refine (b_checkMaterial.calls k1 _ _ l0_0 _ _ l0_1 _ _ l0_2 _ _ l0_3 a0_4 a0_5 a0_6 ((rd_T50 l0_1 x19_1).f0) ((rd_T50 l0_1 x19_1).f1) ((rd_T50 l0_1 x19_1).f2) ((rd_T50 l0_1 x19_1).f3) ((rd_T50 l0_1 x19_1).f4) ((rd_T50 l0_1 x19_1).f5) _ _ ((rd_T50 l0_1 x19_1).f6) t140 _ (cS (Kd.C_below HR0_0.out HB.out)) HC0_0.out (cS (Kd.C_below HR0_1.out HB.out)) HC0_1.out (cS (Kd.C_below HR0_2.out HB.out)) HC0_2.out (cS (Kd.C_below HR0_3.out HB.out)) HC0_3.out (cS (Kd.C_below HR136_6.out HB.out)) HC136_6.out A22.out).mono ?_); rintro e w31 ⟨rfl, hb⟩; refine ⟨_, rfl, ?_⟩; replace BK135 := Sd.mk (blk_below (bkA BK135.out) hb); replace BK137 := Sd.mk (blk_below (bkA BK137.out) hb); replace HB := Sd.mk (below_step (bBl HB.out) hb); (try clear hb); (try clear hb2); (try clear hk); (try clear hi)))
           go_roundg k1
           case measure => have := HK1.out; omega
           case rel => exact ⟨(wrap64 (x19_1 + 1)), tS, H', ⟨by have := HK1.out; omega⟩, ⟨bkA BK135.out⟩, ⟨bBl HB.out⟩⟩
          ·rw [if_neg c23] at H
           have c23b0 : (t140 == 0) = false := beq_eq_false_iff_ne.mpr c23
           have c23b1 : (t140 != 0) = true := bne_iff_ne.mpr c23
           obtain rfl := Option.some.inj H
           have p136 : 0 ≤ (x19_1 : Int) := tB
           have q136 : x19_1 < (l0_1.length : Int) := tB
           obtain ⟨ad136, A136_6, c136_6, e136, hx136_0, hx136_1, hx136_2, hx136_3, hx136_4, hx136_5, hx136_6, hl136_6, hi136_6⟩ := at_T50 HR0_1.out x19_1 p136 q136; cases e136; replace hx136_0 := cU HB hx136_0; replace hx136_1 := cU HB hx136_1; replace hx136_2 := cU HB hx136_2; replace hx136_3 := cU HB hx136_3; replace hx136_4 := cU HB hx136_4; replace hx136_5 := cU HB hx136_5; replace hx136_6 := cU HB hx136_6; have HR136_6 := Sd.mk hi136_6; have HC136_6 := Sd.mk hl136_6; clear hi136_6 hl136_6; replace p136 := eq_true p136; replace q136 := eq_true q136
           go_wp2_with (first | ((with_reducible refine gate_dst (N := 4) rfl ?_); refine box_event ?hg (N := 4) ?hd (cs := #[.string (⟨#[]⟩ : ByteArray), .int .i64 0, .int .i64 0, .int .i64 0, .int .i64 0, .int .i64 0, .slice none 0 0]) (t := 50) ?hr ?_; (case hd => rfl); (case hg => rfl); (case hr => exact tG); intro gb137 hg w32 hbox hb; have BK137 := Sd.mk (hbox); have GW137 := Sd.mk (bSz hg (bBl HB.out)); have GE137 := Sd.mk (bSz hg (bBl HB.out)); replace HB := Sd.mk (below_step (bBl HB.out) hb); have NB135_137 := Sd.mk (bNl hg (bkA BK135.out)); have NB137_135 := Sd.mk (bNg hg (bkA BK135.out)); replace BK135 := Sd.mk (blk_below (bkA BK135.out) hb); clear hb hbox hg; have hnb33 := NB137_135.out; have hnc33 := NB135_137.out; obtain ⟨u34_0, u34_1, u34_2, u34_3, u34_4, u34_5, u34_6, o34_0, o34_1, o34_2, o34_3, o34_4, o34_5, o34_6⟩ := bc7 (w := w32) BK137.out) | ((with_reducible refine gate_callee (f := 38) rfl ?_); refine goesL_ (some 27) rfl rfl Tryz.func38 (by kernel_rfl) rfl #[.string ((rd_T50 l0_1 x19_1).f0)] rfl tM ?_; (with_reducible refine (b_name.calls k1 ((rd_T50 l0_1 x19_1).f0) true _ A13.out).mono ?_); rintro e w' ⟨rfl, ⟨nd, rfl⟩⟩; refine ⟨_, rfl, ?_⟩; obtain ⟨u35_0, u35_1, u35_2, u35_3, u35_4, u35_5, u35_6, o35_0, o35_1, o35_2, o35_3, o35_4, o35_5, o35_6⟩ := bc7 (w := w32) BK135.out) | ((with_reducible refine gate_callee (f := 84) rfl ?_); refine goesL_ (some 33) rfl rfl Tryz.func84 (by kernel_rfl) rfl #[.slice (some ad136) l0_1.length c0_1, .int .i64 x19_1, .func (.func 85) #[] #[]] rfl tM ?_; (with_reducible refine (x_twiceM.calls _ _ l0_1 x19_1 false _ (Kd.C_below HR0_1.out (bBl HB.out)) HC0_1.out A15.out).mono ?_); rintro e w36 ⟨rfl, hb⟩; refine ⟨_, rfl, ?_⟩; replace BK135 := Sd.mk (blk_below (g := gb135) (o := .cells #[.slice A0_0 l0_0.length c0_0, .slice (some ad136) l0_1.length c0_1, .slice A0_2 l0_2.length c0_2, .slice A0_3 l0_3.length c0_3, .int .i64 a0_4, .int .i64 a0_5, .int .i64 a0_6] 29 (0, 0)) (by (with_reducible repeat (first | refine blk_drewN ?_ _ | refine blk_drew ?_ | refine blk_alloc ?_ _)); refine blk_far ?_ NB135_137.out _; (with_reducible repeat (first | refine blk_drewN ?_ _ | refine blk_drew ?_ | refine blk_alloc ?_ _)); refine blk_far ?_ NB135_137.out _; (with_reducible repeat (first | refine blk_drewN ?_ _ | refine blk_drew ?_ | refine blk_alloc ?_ _)); refine blk_far ?_ NB135_137.out _; (with_reducible repeat (first | refine blk_drewN ?_ _ | refine blk_drew ?_ | refine blk_alloc ?_ _)); refine blk_far ?_ NB135_137.out _; (with_reducible repeat (first | refine blk_drewN ?_ _ | refine blk_drew ?_ | refine blk_alloc ?_ _)); refine blk_far ?_ NB135_137.out _; (with_reducible repeat (first | refine blk_drewN ?_ _ | refine blk_drew ?_ | refine blk_alloc ?_ _)); refine blk_far ?_ NB135_137.out _; (with_reducible repeat (first | refine blk_drewN ?_ _ | refine blk_drew ?_ | refine blk_alloc ?_ _)); refine blk_far ?_ NB135_137.out _; (with_reducible repeat (first | refine blk_drewN ?_ _ | refine blk_drew ?_ | refine blk_alloc ?_ _)); exact BK135.out) hb); replace BK137 := Sd.mk (blk_below (g := gb137) (o := .cells #[.string ((rd_T50 l0_1 x19_1).f0), .int .i64 ((rd_T50 l0_1 x19_1).f1), .int .i64 ((rd_T50 l0_1 x19_1).f2), .int .i64 ((rd_T50 l0_1 x19_1).f3), .int .i64 ((rd_T50 l0_1 x19_1).f4), .int .i64 ((rd_T50 l0_1 x19_1).f5), .slice A136_6 ((rd_T50 l0_1 x19_1).f6).length c136_6] 50 (0, 0)) (by (with_reducible repeat (first | refine blk_drewN ?_ _ | refine blk_drew ?_ | refine blk_alloc ?_ _)); refine blk_put (cs := #[.string ((rd_T50 l0_1 x19_1).f0), .int .i64 ((rd_T50 l0_1 x19_1).f1), .int .i64 ((rd_T50 l0_1 x19_1).f2), .int .i64 ((rd_T50 l0_1 x19_1).f3), .int .i64 ((rd_T50 l0_1 x19_1).f4), .int .i64 ((rd_T50 l0_1 x19_1).f5), .slice none 0 0]) ?_ 6 _ rfl; (with_reducible repeat (first | refine blk_drewN ?_ _ | refine blk_drew ?_ | refine blk_alloc ?_ _)); refine blk_put (cs := #[.string ((rd_T50 l0_1 x19_1).f0), .int .i64 ((rd_T50 l0_1 x19_1).f1), .int .i64 ((rd_T50 l0_1 x19_1).f2), .int .i64 ((rd_T50 l0_1 x19_1).f3), .int .i64 ((rd_T50 l0_1 x19_1).f4), .int .i64 0, .slice none 0 0]) ?_ 5 _ rfl; (with_reducible repeat (first | refine blk_drewN ?_ _ | refine blk_drew ?_ | refine blk_alloc ?_ _)); refine blk_put (cs := #[.string ((rd_T50 l0_1 x19_1).f0), .int .i64 ((rd_T50 l0_1 x19_1).f1), .int .i64 ((rd_T50 l0_1 x19_1).f2), .int .i64 ((rd_T50 l0_1 x19_1).f3), .int .i64 0, .int .i64 0, .slice none 0 0]) ?_ 4 _ rfl; (with_reducible repeat (first | refine blk_drewN ?_ _ | refine blk_drew ?_ | refine blk_alloc ?_ _)); refine blk_put (cs := #[.string ((rd_T50 l0_1 x19_1).f0), .int .i64 ((rd_T50 l0_1 x19_1).f1), .int .i64 ((rd_T50 l0_1 x19_1).f2), .int .i64 0, .int .i64 0, .int .i64 0, .slice none 0 0]) ?_ 3 _ rfl; (with_reducible repeat (first | refine blk_drewN ?_ _ | refine blk_drew ?_ | refine blk_alloc ?_ _)); refine blk_put (cs := #[.string ((rd_T50 l0_1 x19_1).f0), .int .i64 ((rd_T50 l0_1 x19_1).f1), .int .i64 0, .int .i64 0, .int .i64 0, .int .i64 0, .slice none 0 0]) ?_ 2 _ rfl; (with_reducible repeat (first | refine blk_drewN ?_ _ | refine blk_drew ?_ | refine blk_alloc ?_ _)); refine blk_put (cs := #[.string ((rd_T50 l0_1 x19_1).f0), .int .i64 0, .int .i64 0, .int .i64 0, .int .i64 0, .int .i64 0, .slice none 0 0]) ?_ 1 _ rfl; (with_reducible repeat (first | refine blk_drewN ?_ _ | refine blk_drew ?_ | refine blk_alloc ?_ _)); refine blk_put (cs := #[.string (⟨#[]⟩ : ByteArray), .int .i64 0, .int .i64 0, .int .i64 0, .int .i64 0, .int .i64 0, .slice none 0 0]) ?_ 0 _ rfl; (with_reducible repeat (first | refine blk_drewN ?_ _ | refine blk_drew ?_ | refine blk_alloc ?_ _)); exact BK137.out) hb); replace HB := Sd.mk (below_step (bBl HB.out) hb); (try clear hb); (try clear hb2); (try clear hk); (try clear hi); obtain ⟨u37_0, u37_1, u37_2, u37_3, u37_4, u37_5, u37_6, o37_0, o37_1, o37_2, o37_3, o37_4, o37_5, o37_6⟩ := bc7 (w := w36) BK135.out; obtain ⟨u38_0, u38_1, u38_2, u38_3, u38_4, u38_5, u38_6, o38_0, o38_1, o38_2, o38_3, o38_4, o38_5, o38_6⟩ := bc7 (w := w36) BK137.out) | ((with_reducible refine gate_callee (f := 86) rfl ?_); refine goesL_ (some 36) rfl rfl Tryz.func86 (by kernel_rfl) rfl #[.agg #[.slice A0_0 l0_0.length c0_0, .slice (some ad136) l0_1.length c0_1, .slice A0_2 l0_2.length c0_2, .slice A0_3 l0_3.length c0_3, .int .i64 a0_4, .int .i64 a0_5, .int .i64 a0_6], .agg #[.string ((rd_T50 l0_1 x19_1).f0), .int .i64 ((rd_T50 l0_1 x19_1).f1), .int .i64 ((rd_T50 l0_1 x19_1).f2), .int .i64 ((rd_T50 l0_1 x19_1).f3), .int .i64 ((rd_T50 l0_1 x19_1).f4), .int .i64 ((rd_T50 l0_1 x19_1).f5), .slice A136_6 ((rd_T50 l0_1 x19_1).f6).length c136_6]] rfl tM ?_; (with_reducible refine (b_checkMaterial.calls k1 _ _ l0_0 _ _ l0_1 _ _ l0_2 _ _ l0_3 a0_4 a0_5 a0_6 ((rd_T50 l0_1 x19_1).f0) ((rd_T50 l0_1 x19_1).f1) ((rd_T50 l0_1 x19_1).f2) ((rd_T50 l0_1 x19_1).f3) ((rd_T50 l0_1 x19_1).f4) ((rd_T50 l0_1 x19_1).f5) _ _ ((rd_T50 l0_1 x19_1).f6) t140 _ (cS (Kd.C_below HR0_0.out HB.out)) HC0_0.out (cS (Kd.C_below HR0_1.out HB.out)) HC0_1.out (cS (Kd.C_below HR0_2.out HB.out)) HC0_2.out (cS (Kd.C_below HR0_3.out HB.out)) HC0_3.out (cS (Kd.C_below HR136_6.out HB.out)) HC136_6.out A22.out).mono ?_); rintro e w39 ⟨rfl, hb⟩; refine ⟨_, rfl, ?_⟩; replace BK135 := Sd.mk (blk_below (bkA BK135.out) hb); replace BK137 := Sd.mk (blk_below (bkA BK137.out) hb); replace HB := Sd.mk (below_step (bBl HB.out) hb); (try clear hb); (try clear hb2); (try clear hk); (try clear hi)))
           go_ret
           exact ⟨tE, bBl HB.out⟩
        ·replace c14 := Bool.eq_false_iff.mpr c14
         subst c14
         have H1 : (some 5) = some r := by rw [if_neg (show ¬ (false = true) by decide)] at H; exact H
         clear H; have H := H1; clear H1; obtain rfl := Option.some.inj H
         have p136 : 0 ≤ (x19_1 : Int) := tB
         have q136 : x19_1 < (l0_1.length : Int) := tB
         obtain ⟨ad136, A136_6, c136_6, e136, hx136_0, hx136_1, hx136_2, hx136_3, hx136_4, hx136_5, hx136_6, hl136_6, hi136_6⟩ := at_T50 HR0_1.out x19_1 p136 q136; cases e136; replace hx136_0 := cU HB hx136_0; replace hx136_1 := cU HB hx136_1; replace hx136_2 := cU HB hx136_2; replace hx136_3 := cU HB hx136_3; replace hx136_4 := cU HB hx136_4; replace hx136_5 := cU HB hx136_5; replace hx136_6 := cU HB hx136_6; have HR136_6 := Sd.mk hi136_6; have HC136_6 := Sd.mk hl136_6; clear hi136_6 hl136_6; replace p136 := eq_true p136; replace q136 := eq_true q136
         go_wp2_with (first | ((with_reducible refine gate_dst (N := 4) rfl ?_); refine box_event ?hg (N := 4) ?hd (cs := #[.string (⟨#[]⟩ : ByteArray), .int .i64 0, .int .i64 0, .int .i64 0, .int .i64 0, .int .i64 0, .slice none 0 0]) (t := 50) ?hr ?_; (case hd => rfl); (case hg => rfl); (case hr => exact tG); intro gb137 hg w40 hbox hb; have BK137 := Sd.mk (hbox); have GW137 := Sd.mk (bSz hg (bBl HB.out)); have GE137 := Sd.mk (bSz hg (bBl HB.out)); replace HB := Sd.mk (below_step (bBl HB.out) hb); have NB135_137 := Sd.mk (bNl hg (bkA BK135.out)); have NB137_135 := Sd.mk (bNg hg (bkA BK135.out)); replace BK135 := Sd.mk (blk_below (bkA BK135.out) hb); clear hb hbox hg; have hnb41 := NB137_135.out; have hnc41 := NB135_137.out; obtain ⟨u42_0, u42_1, u42_2, u42_3, u42_4, u42_5, u42_6, o42_0, o42_1, o42_2, o42_3, o42_4, o42_5, o42_6⟩ := bc7 (w := w40) BK137.out) | ((with_reducible refine gate_callee (f := 38) rfl ?_); refine goesL_ (some 27) rfl rfl Tryz.func38 (by kernel_rfl) rfl #[.string ((rd_T50 l0_1 x19_1).f0)] rfl tM ?_; (with_reducible refine (b_name.calls k1 ((rd_T50 l0_1 x19_1).f0) false _ A13.out).mono ?_); rintro e w' ⟨rfl, ⟨nd, rfl⟩⟩; refine ⟨_, rfl, ?_⟩))
         go_ret
         exact ⟨tE, bBl HB.out⟩
       ·rw [if_neg c12] at H
        exact absurd H (by simp)
      ·rw [if_neg c11] at H
       exact absurd H (by simp)
     ·rw [if_neg c10] at H
      have c10b0 : decide (x19_1 < (l0_1.length : Int)) = false := decide_eq_false c10
      clear c10; obtain rfl := Option.some.inj H
      go_wp2
      go_ret
      exact ⟨tE, bBl HB.out⟩
end
section
def b_checkProperty.f (l0_0 : List ByteArray) (l0_1 : List (S50)) (l0_2 : List (S27)) (l0_3 : List (S77)) (a0_4 : Int) (a0_5 : Int) (a0_6 : Int) (a1_0 : ByteArray) (l1_1 : List Int) (a1_2 : Int) (a1_3 : Int) : Option (Int) := if (l1_1.length : Int) = (l0_0.length : Int) then ((x_coefs.f l1_1).bind fun t143 => (if t143 = true then (some 1) else ((b_span.f a1_2 a1_3 (-10000) 10000).bind fun t144 => (if t144 = true then (some 0) else (some 1))))) else (some 1)
theorem b_checkProperty.calls (A0_0 : Option Addr) (c0_0 : Nat) (l0_0 : List ByteArray) (A0_1 : Option Addr) (c0_1 : Nat) (l0_1 : List (S50)) (A0_2 : Option Addr) (c0_2 : Nat) (l0_2 : List (S27)) (A0_3 : Option Addr) (c0_3 : Nat) (l0_3 : List (S77)) (a0_4 : Int) (a0_5 : Int) (a0_6 : Int) (a1_0 : ByteArray) (A1_1 : Option Addr) (c1_1 : Nat) (l1_1 : List Int) (a1_2 : Int) (a1_3 : Int) (r : Int) (w : World) (hr0_0 : Kd.C Kd.string w A0_0 l0_0.length l0_0) (hc0_0 : l0_0.length ≤ c0_0) (hr0_1 : Kd.C k50 w A0_1 l0_1.length l0_1) (hc0_1 : l0_1.length ≤ c0_1) (hr0_2 : Kd.C k27 w A0_2 l0_2.length l0_2) (hc0_2 : l0_2.length ≤ c0_2) (hr0_3 : Kd.C k77 w A0_3 l0_3.length l0_3) (hc0_3 : l0_3.length ≤ c0_3) (hr1_1 : Kd.C (Kd.int .i64) w A1_1 l1_1.length l1_1) (hc1_1 : l1_1.length ≤ c1_1) (h : b_checkProperty.f l0_0 l0_1 l0_2 l0_3 a0_4 a0_5 a0_6 a1_0 l1_1 a1_2 a1_3 = some r) :
  Calls Tryz.prog 41 #[.agg #[.slice A0_0 l0_0.length c0_0, .slice A0_1 l0_1.length c0_1, .slice A0_2 l0_2.length c0_2, .slice A0_3 l0_3.length c0_3, .int .i64 a0_4, .int .i64 a0_5, .int .i64 a0_6], .agg #[.string a1_0, .slice A1_1 l1_1.length c1_1, .int .i64 a1_2, .int .i64 a1_3]] w fun e w' => e = .returned (.int .i64 r) ∧ Below w.heap.size w w' := by
 have hu29 := Tryz.underlying29; have hu77 := Tryz.underlying77; have hu27 := Tryz.underlying27; have HR0_0 := Sd.mk hr0_0; have HC0_0 := Sd.mk hc0_0; clear hr0_0 hc0_0; have HR0_1 := Sd.mk hr0_1; have HC0_1 := Sd.mk hc0_1; clear hr0_1 hc0_1; have HR0_2 := Sd.mk hr0_2; have HC0_2 := Sd.mk hc0_2; clear hr0_2 hc0_2; have HR0_3 := Sd.mk hr0_3; have HC0_3 := Sd.mk hc0_3; clear hr0_3 hc0_3; have HR1_1 := Sd.mk hr1_1; have HC1_1 := Sd.mk hc1_1; clear hr1_1 hc1_1; have HB := Sd.mk (Below.refl w.heap.size w)
 have H : (if (l1_1.length : Int) = (l0_0.length : Int) then ((x_coefs.f l1_1).bind fun t143 => (if t143 = true then (some 1) else ((b_span.f a1_2 a1_3 (-10000) 10000).bind fun t144 => (if t144 = true then (some 0) else (some 1))))) else (some 1)) = some r := h
 clear h
 by_cases c3 : (l1_1.length : Int) = (l0_0.length : Int)
 ·rw [if_pos c3] at H
  have c3b0 : ((l1_1.length : Int) == (l0_0.length : Int)) = true := beq_iff_eq.mpr c3
  have c3b1 : ((l1_1.length : Int) != (l0_0.length : Int)) = false := bne_eq_false_iff_eq.mpr c3
  have c3b2 : (l1_1.length == l0_0.length) = true := by first | simpa using c3 | (simp at c3 ⊢; omega)
  clear c3; replace H := Option.bind_eq_some_iff.mp H; obtain ⟨t143, A40, H⟩ := H
  try dsimp only at H
  have A4 := Sd.mk A40; clear A40
  by_cases c5 : t143 = true
  ·subst c5
   have H1 : (some 1) = some r := by rw [if_pos rfl] at H; exact H
   clear H; have H := H1; clear H1; obtain rfl := Option.some.inj H
   go_enter Tryz.func41, Tryz.ntmps41
   go_wp2_with (first | ((with_reducible refine gate_dst (N := 2) rfl ?_); refine box_event ?hg (N := 2) ?hd (cs := #[.slice A0_0 l0_0.length c0_0, .slice A0_1 l0_1.length c0_1, .slice A0_2 l0_2.length c0_2, .slice A0_3 l0_3.length c0_3, .int .i64 a0_4, .int .i64 a0_5, .int .i64 a0_6]) (t := 29) ?hr ?_; (case hd => rfl); (case hg => rfl); (case hr => exact tG); intro gb141 hg w6 hbox hb; have BK141 := Sd.mk (hbox); have GW141 := Sd.mk (bSz hg (bBl HB.out)); have GE141 := Sd.mk (bSz hg (bBl HB.out)); replace HB := Sd.mk (below_step (bBl HB.out) hb); clear hb hbox hg) | ((with_reducible refine gate_dst (N := 3) rfl ?_); refine box_event ?hg (N := 3) ?hd (cs := #[.string a1_0, .slice A1_1 l1_1.length c1_1, .int .i64 a1_2, .int .i64 a1_3]) (t := 77) ?hr ?_; (case hd => rfl); (case hg => rfl); (case hr => exact tG); intro gb142 hg w7 hbox hb; have BK142 := Sd.mk (hbox); have GW142 := Sd.mk (bSz hg (bBl HB.out)); have GE142 := Sd.mk (bSz hg (bBl HB.out)); replace HB := Sd.mk (below_step (bBl HB.out) hb); have NB141_142 := Sd.mk (bNl hg (bkA BK141.out)); have NB142_141 := Sd.mk (bNg hg (bkA BK141.out)); replace BK141 := Sd.mk (blk_below (bkA BK141.out) hb); clear hb hbox hg; have hnb8 := NB142_141.out; have hnc8 := NB141_142.out; obtain ⟨u9_0, u9_1, u9_2, u9_3, o9_0, o9_1, o9_2, o9_3⟩ := bc4 (w := w7) BK142.out; obtain ⟨u10_0, u10_1, u10_2, u10_3, u10_4, u10_5, u10_6, o10_0, o10_1, o10_2, o10_3, o10_4, o10_5, o10_6⟩ := bc7 (w := w7) BK141.out) | (go_at_call 27; (with_reducible refine (x_coefs.calls _ _ l1_1 true _ (cS (Kd.C_below HR1_1.out HB.out)) HC1_1.out A4.out).mono ?_); rintro e w11 ⟨rfl, hb⟩; replace BK141 := Sd.mk (blk_below (bkA BK141.out) hb); replace BK142 := Sd.mk (blk_below (bkA BK142.out) hb); replace HB := Sd.mk (below_step (bBl HB.out) hb); (try clear hb); (try clear hb2); (try clear hk); (try clear hi)))
   go_ret
   exact ⟨tE, bBl HB.out⟩
  ·replace c5 := Bool.eq_false_iff.mpr c5
   subst c5
   have H1 : ((b_span.f a1_2 a1_3 (-10000) 10000).bind fun t144 => (if t144 = true then (some 0) else (some 1))) = some r := by rw [if_neg (show ¬ (false = true) by decide)] at H; exact H
   clear H; have H := H1; clear H1; replace H := Option.bind_eq_some_iff.mp H; obtain ⟨t144, A120, H⟩ := H
   try dsimp only at H
   have A12 := Sd.mk A120; clear A120
   by_cases c13 : t144 = true
   ·subst c13
    have H1 : (some 0) = some r := by rw [if_pos rfl] at H; exact H
    clear H; have H := H1; clear H1; obtain rfl := Option.some.inj H
    go_enter Tryz.func41, Tryz.ntmps41
    go_wp2_with (first | ((with_reducible refine gate_dst (N := 2) rfl ?_); refine box_event ?hg (N := 2) ?hd (cs := #[.slice A0_0 l0_0.length c0_0, .slice A0_1 l0_1.length c0_1, .slice A0_2 l0_2.length c0_2, .slice A0_3 l0_3.length c0_3, .int .i64 a0_4, .int .i64 a0_5, .int .i64 a0_6]) (t := 29) ?hr ?_; (case hd => rfl); (case hg => rfl); (case hr => exact tG); intro gb141 hg w14 hbox hb; have BK141 := Sd.mk (hbox); have GW141 := Sd.mk (bSz hg (bBl HB.out)); have GE141 := Sd.mk (bSz hg (bBl HB.out)); replace HB := Sd.mk (below_step (bBl HB.out) hb); clear hb hbox hg) | ((with_reducible refine gate_dst (N := 3) rfl ?_); refine box_event ?hg (N := 3) ?hd (cs := #[.string a1_0, .slice A1_1 l1_1.length c1_1, .int .i64 a1_2, .int .i64 a1_3]) (t := 77) ?hr ?_; (case hd => rfl); (case hg => rfl); (case hr => exact tG); intro gb142 hg w15 hbox hb; have BK142 := Sd.mk (hbox); have GW142 := Sd.mk (bSz hg (bBl HB.out)); have GE142 := Sd.mk (bSz hg (bBl HB.out)); replace HB := Sd.mk (below_step (bBl HB.out) hb); have NB141_142 := Sd.mk (bNl hg (bkA BK141.out)); have NB142_141 := Sd.mk (bNg hg (bkA BK141.out)); replace BK141 := Sd.mk (blk_below (bkA BK141.out) hb); clear hb hbox hg; have hnb16 := NB142_141.out; have hnc16 := NB141_142.out; obtain ⟨u17_0, u17_1, u17_2, u17_3, o17_0, o17_1, o17_2, o17_3⟩ := bc4 (w := w15) BK142.out; obtain ⟨u18_0, u18_1, u18_2, u18_3, u18_4, u18_5, u18_6, o18_0, o18_1, o18_2, o18_3, o18_4, o18_5, o18_6⟩ := bc7 (w := w15) BK141.out) | (go_at_call 27; (with_reducible refine (x_coefs.calls _ _ l1_1 false _ (cS (Kd.C_below HR1_1.out HB.out)) HC1_1.out A4.out).mono ?_); rintro e w19 ⟨rfl, hb⟩; replace BK141 := Sd.mk (blk_below (bkA BK141.out) hb); replace BK142 := Sd.mk (blk_below (bkA BK142.out) hb); replace HB := Sd.mk (below_step (bBl HB.out) hb); (try clear hb); (try clear hb2); (try clear hk); (try clear hi); obtain ⟨u20_0, u20_1, u20_2, u20_3, o20_0, o20_1, o20_2, o20_3⟩ := bc4 (w := w19) BK142.out) | (go_at_call 37; (with_reducible refine (b_span.calls a1_2 a1_3 (-10000) 10000 true _ A12.out).mono ?_); rintro e w21 ⟨rfl, hb⟩; replace BK141 := Sd.mk (blk_below (bkA BK141.out) hb); replace BK142 := Sd.mk (blk_below (bkA BK142.out) hb); replace HB := Sd.mk (below_step (bBl HB.out) hb); (try clear hb); (try clear hb2); (try clear hk); (try clear hi)))
    go_ret
    exact ⟨tE, bBl HB.out⟩
   ·replace c13 := Bool.eq_false_iff.mpr c13
    subst c13
    have H1 : (some 1) = some r := by rw [if_neg (show ¬ (false = true) by decide)] at H; exact H
    clear H; have H := H1; clear H1; obtain rfl := Option.some.inj H
    go_enter Tryz.func41, Tryz.ntmps41
    go_wp2_with (first | ((with_reducible refine gate_dst (N := 2) rfl ?_); refine box_event ?hg (N := 2) ?hd (cs := #[.slice A0_0 l0_0.length c0_0, .slice A0_1 l0_1.length c0_1, .slice A0_2 l0_2.length c0_2, .slice A0_3 l0_3.length c0_3, .int .i64 a0_4, .int .i64 a0_5, .int .i64 a0_6]) (t := 29) ?hr ?_; (case hd => rfl); (case hg => rfl); (case hr => exact tG); intro gb141 hg w22 hbox hb; have BK141 := Sd.mk (hbox); have GW141 := Sd.mk (bSz hg (bBl HB.out)); have GE141 := Sd.mk (bSz hg (bBl HB.out)); replace HB := Sd.mk (below_step (bBl HB.out) hb); clear hb hbox hg) | ((with_reducible refine gate_dst (N := 3) rfl ?_); refine box_event ?hg (N := 3) ?hd (cs := #[.string a1_0, .slice A1_1 l1_1.length c1_1, .int .i64 a1_2, .int .i64 a1_3]) (t := 77) ?hr ?_; (case hd => rfl); (case hg => rfl); (case hr => exact tG); intro gb142 hg w23 hbox hb; have BK142 := Sd.mk (hbox); have GW142 := Sd.mk (bSz hg (bBl HB.out)); have GE142 := Sd.mk (bSz hg (bBl HB.out)); replace HB := Sd.mk (below_step (bBl HB.out) hb); have NB141_142 := Sd.mk (bNl hg (bkA BK141.out)); have NB142_141 := Sd.mk (bNg hg (bkA BK141.out)); replace BK141 := Sd.mk (blk_below (bkA BK141.out) hb); clear hb hbox hg; have hnb24 := NB142_141.out; have hnc24 := NB141_142.out; obtain ⟨u25_0, u25_1, u25_2, u25_3, o25_0, o25_1, o25_2, o25_3⟩ := bc4 (w := w23) BK142.out; obtain ⟨u26_0, u26_1, u26_2, u26_3, u26_4, u26_5, u26_6, o26_0, o26_1, o26_2, o26_3, o26_4, o26_5, o26_6⟩ := bc7 (w := w23) BK141.out) | (go_at_call 27; (with_reducible refine (x_coefs.calls _ _ l1_1 false _ (cS (Kd.C_below HR1_1.out HB.out)) HC1_1.out A4.out).mono ?_); rintro e w27 ⟨rfl, hb⟩; replace BK141 := Sd.mk (blk_below (bkA BK141.out) hb); replace BK142 := Sd.mk (blk_below (bkA BK142.out) hb); replace HB := Sd.mk (below_step (bBl HB.out) hb); (try clear hb); (try clear hb2); (try clear hk); (try clear hi); obtain ⟨u28_0, u28_1, u28_2, u28_3, o28_0, o28_1, o28_2, o28_3⟩ := bc4 (w := w27) BK142.out) | (go_at_call 37; (with_reducible refine (b_span.calls a1_2 a1_3 (-10000) 10000 false _ A12.out).mono ?_); rintro e w29 ⟨rfl, hb⟩; replace BK141 := Sd.mk (blk_below (bkA BK141.out) hb); replace BK142 := Sd.mk (blk_below (bkA BK142.out) hb); replace HB := Sd.mk (below_step (bBl HB.out) hb); (try clear hb); (try clear hb2); (try clear hk); (try clear hi)))
    go_ret
    exact ⟨tE, bBl HB.out⟩
 ·rw [if_neg c3] at H
  have c3b0 : ((l1_1.length : Int) == (l0_0.length : Int)) = false := beq_eq_false_iff_ne.mpr c3
  have c3b1 : ((l1_1.length : Int) != (l0_0.length : Int)) = true := bne_iff_ne.mpr c3
  have c3b2 : (l1_1.length == l0_0.length) = false := by first | simpa using c3 | (simp at c3 ⊢; omega)
  obtain rfl := Option.some.inj H
  go_enter Tryz.func41, Tryz.ntmps41
  go_wp2_with (first | ((with_reducible refine gate_dst (N := 2) rfl ?_); refine box_event ?hg (N := 2) ?hd (cs := #[.slice A0_0 l0_0.length c0_0, .slice A0_1 l0_1.length c0_1, .slice A0_2 l0_2.length c0_2, .slice A0_3 l0_3.length c0_3, .int .i64 a0_4, .int .i64 a0_5, .int .i64 a0_6]) (t := 29) ?hr ?_; (case hd => rfl); (case hg => rfl); (case hr => exact tG); intro gb141 hg w30 hbox hb; have BK141 := Sd.mk (hbox); have GW141 := Sd.mk (bSz hg (bBl HB.out)); have GE141 := Sd.mk (bSz hg (bBl HB.out)); replace HB := Sd.mk (below_step (bBl HB.out) hb); clear hb hbox hg) | ((with_reducible refine gate_dst (N := 3) rfl ?_); refine box_event ?hg (N := 3) ?hd (cs := #[.string a1_0, .slice A1_1 l1_1.length c1_1, .int .i64 a1_2, .int .i64 a1_3]) (t := 77) ?hr ?_; (case hd => rfl); (case hg => rfl); (case hr => exact tG); intro gb142 hg w31 hbox hb; have BK142 := Sd.mk (hbox); have GW142 := Sd.mk (bSz hg (bBl HB.out)); have GE142 := Sd.mk (bSz hg (bBl HB.out)); replace HB := Sd.mk (below_step (bBl HB.out) hb); have NB141_142 := Sd.mk (bNl hg (bkA BK141.out)); have NB142_141 := Sd.mk (bNg hg (bkA BK141.out)); replace BK141 := Sd.mk (blk_below (bkA BK141.out) hb); clear hb hbox hg; have hnb32 := NB142_141.out; have hnc32 := NB141_142.out; obtain ⟨u33_0, u33_1, u33_2, u33_3, o33_0, o33_1, o33_2, o33_3⟩ := bc4 (w := w31) BK142.out; obtain ⟨u34_0, u34_1, u34_2, u34_3, u34_4, u34_5, u34_6, o34_0, o34_1, o34_2, o34_3, o34_4, o34_5, o34_6⟩ := bc7 (w := w31) BK141.out))
  go_ret
  exact ⟨tE, bBl HB.out⟩
end
section
mutual
def b_Check.j0 : Nat → Bool → List ByteArray → List (S50) → List (S27) → List (S77) → Int → Int → Int → Option (Int)
 | 0, _, _, _, _, _, _, _, _ => none
 | k + 1, x29, x146q0, x146q1, x146q2, x146q3, x146q4, x146q5, x146q6 => if x29 = true then (some 1) else (if (x146q3.length : Int) > 6 then (some 3) else (b_Check.l0 k x146q3 (x146q3.length : Int) 0 x146q0 x146q1 x146q2 x146q3 x146q4 x146q5 x146q6))
def b_Check.l0 : Nat → List (S77) → Int → Int → List ByteArray → List (S50) → List (S27) → List (S77) → Int → Int → Int → Option (Int)
 | 0, _, _, _, _, _, _, _, _, _, _ => none
 | k + 1, x35, x36, x37, x146q0, x146q1, x146q2, x146q3, x146q4, x146q5, x146q6 => if x37 < x36 then (if 0 ≤ x37 then (if x37 < (x35.length : Int) then ((b_name.f k ((rd_T77 x35 x37).f0)).bind fun t151 => (if t151 = true then ((x_twiceP.f x146q3 x37).bind fun t152 => (if t152 = true then (some 6) else ((b_checkProperty.f x146q0 x146q1 x146q2 x146q3 x146q4 x146q5 x146q6 ((rd_T77 x35 x37).f0) ((rd_T77 x35 x37).f1) ((rd_T77 x35 x37).f2.f0) ((rd_T77 x35 x37).f2.f1)).bind fun t153 => (if t153 = 0 then (b_Check.l0 k x35 x36 (wrap64 (x37 + 1)) x146q0 x146q1 x146q2 x146q3 x146q4 x146q5 x146q6) else (some t153))))) else (some 5))) else (none)) else (none)) else ((b_span.f x146q4 x146q5 (-10000) 10000).bind fun t154 => (if t154 = true then ((b_within.f x146q6 1 10000).bind fun t155 => (if t155 = true then (some 0) else (some 1))) else (some 1)))
end
def b_Check.f (k : Nat) (l0_0 : List ByteArray) (l0_1 : List (S50)) (l0_2 : List (S27)) (l0_3 : List (S77)) (a0_4 : Int) (a0_5 : Int) (a0_6 : Int) : Option (Int) := (b_checkOxides.f k l0_0 l0_1 l0_2 l0_3 a0_4 a0_5 a0_6).bind fun t146 => (if t146 = 0 then ((b_checkMaterials.f k l0_0 l0_1 l0_2 l0_3 a0_4 a0_5 a0_6).bind fun t147 => (if t147 = 0 then (if (l0_2.length : Int) = (l0_0.length : Int) then ((x_spans.f l0_2).bind fun t148 => (b_Check.j0 k t148 l0_0 l0_1 l0_2 l0_3 a0_4 a0_5 a0_6)) else (b_Check.j0 k true l0_0 l0_1 l0_2 l0_3 a0_4 a0_5 a0_6)) else (some t147))) else (some t146))
theorem b_Check.calls (k : Nat) (A0_0 : Option Addr) (c0_0 : Nat) (l0_0 : List ByteArray) (A0_1 : Option Addr) (c0_1 : Nat) (l0_1 : List (S50)) (A0_2 : Option Addr) (c0_2 : Nat) (l0_2 : List (S27)) (A0_3 : Option Addr) (c0_3 : Nat) (l0_3 : List (S77)) (a0_4 : Int) (a0_5 : Int) (a0_6 : Int) (r : Int) (w : World) (hr0_0 : Kd.C Kd.string w A0_0 l0_0.length l0_0) (hc0_0 : l0_0.length ≤ c0_0) (hr0_1 : Kd.C k50 w A0_1 l0_1.length l0_1) (hc0_1 : l0_1.length ≤ c0_1) (hr0_2 : Kd.C k27 w A0_2 l0_2.length l0_2) (hc0_2 : l0_2.length ≤ c0_2) (hr0_3 : Kd.C k77 w A0_3 l0_3.length l0_3) (hc0_3 : l0_3.length ≤ c0_3) (h : b_Check.f k l0_0 l0_1 l0_2 l0_3 a0_4 a0_5 a0_6 = some r) :
  Calls Tryz.prog 13 #[.agg #[.slice A0_0 l0_0.length c0_0, .slice A0_1 l0_1.length c0_1, .slice A0_2 l0_2.length c0_2, .slice A0_3 l0_3.length c0_3, .int .i64 a0_4, .int .i64 a0_5, .int .i64 a0_6]] w fun e w' => e = .returned (.int .i64 r) ∧ Below w.heap.size w w' := by
 have hu29 := Tryz.underlying29; have hu77 := Tryz.underlying77; have hu27 := Tryz.underlying27; have HR0_0 := Sd.mk hr0_0; have HC0_0 := Sd.mk hc0_0; clear hr0_0 hc0_0; have HR0_1 := Sd.mk hr0_1; have HC0_1 := Sd.mk hc0_1; clear hr0_1 hc0_1; have HR0_2 := Sd.mk hr0_2; have HC0_2 := Sd.mk hc0_2; clear hr0_2 hc0_2; have HR0_3 := Sd.mk hr0_3; have HC0_3 := Sd.mk hc0_3; clear hr0_3 hc0_3; have HB := Sd.mk (Below.refl w.heap.size w)
 have H : ((b_checkOxides.f k l0_0 l0_1 l0_2 l0_3 a0_4 a0_5 a0_6).bind fun t146 => (if t146 = 0 then ((b_checkMaterials.f k l0_0 l0_1 l0_2 l0_3 a0_4 a0_5 a0_6).bind fun t147 => (if t147 = 0 then (if (l0_2.length : Int) = (l0_0.length : Int) then ((x_spans.f l0_2).bind fun t148 => (b_Check.j0 k t148 l0_0 l0_1 l0_2 l0_3 a0_4 a0_5 a0_6)) else (b_Check.j0 k true l0_0 l0_1 l0_2 l0_3 a0_4 a0_5 a0_6)) else (some t147))) else (some t146))) = some r := h
 clear h; replace H := Option.bind_eq_some_iff.mp H; obtain ⟨t146, A20, H⟩ := H
 try dsimp only at H
 have A2 := Sd.mk A20; clear A20
 by_cases c3 : t146 = 0
 ·rw [if_pos c3] at H
  have c3b0 : (t146 == 0) = true := beq_iff_eq.mpr c3
  have c3b1 : (t146 != 0) = false := bne_eq_false_iff_eq.mpr c3
  clear c3; replace H := Option.bind_eq_some_iff.mp H; obtain ⟨t147, A40, H⟩ := H
  try dsimp only at H
  have A4 := Sd.mk A40; clear A40
  by_cases c5 : t147 = 0
  ·rw [if_pos c5] at H
   have c5b0 : (t147 == 0) = true := beq_iff_eq.mpr c5
   have c5b1 : (t147 != 0) = false := bne_eq_false_iff_eq.mpr c5
   clear c5; have HC6 := Sd.mk H; clear H
   go_enter Tryz.func13, Tryz.ntmps13
   go_upto_region 7 with (first | ((with_reducible refine gate_dst (N := 1) rfl ?_); refine box_event ?hg (N := 1) ?hd (cs := #[.slice A0_0 l0_0.length c0_0, .slice A0_1 l0_1.length c0_1, .slice A0_2 l0_2.length c0_2, .slice A0_3 l0_3.length c0_3, .int .i64 a0_4, .int .i64 a0_5, .int .i64 a0_6]) (t := 29) ?hr ?_; (case hd => rfl); (case hg => rfl); (case hr => exact tG); intro gb145 hg w7 hbox hb; have BK145 := Sd.mk (hbox); have GW145 := Sd.mk (bSz hg (bBl HB.out)); have GE145 := Sd.mk (bSz hg (bBl HB.out)); replace HB := Sd.mk (below_step (bBl HB.out) hb); clear hb hbox hg; obtain ⟨u8_0, u8_1, u8_2, u8_3, u8_4, u8_5, u8_6, o8_0, o8_1, o8_2, o8_3, o8_4, o8_5, o8_6⟩ := bc7 (w := w7) BK145.out) | ((with_reducible refine gate_callee (f := 33) rfl ?_); refine goesL_ (some 9) rfl rfl Tryz.func33 (by kernel_rfl) rfl #[.agg #[.slice A0_0 l0_0.length c0_0, .slice A0_1 l0_1.length c0_1, .slice A0_2 l0_2.length c0_2, .slice A0_3 l0_3.length c0_3, .int .i64 a0_4, .int .i64 a0_5, .int .i64 a0_6]] rfl tM ?_; (with_reducible refine (b_checkOxides.calls k _ _ l0_0 _ _ l0_1 _ _ l0_2 _ _ l0_3 a0_4 a0_5 a0_6 t146 _ (cS (Kd.C_below HR0_0.out HB.out)) HC0_0.out (cS (Kd.C_below HR0_1.out HB.out)) HC0_1.out (cS (Kd.C_below HR0_2.out HB.out)) HC0_2.out (cS (Kd.C_below HR0_3.out HB.out)) HC0_3.out A2.out).mono ?_); rintro e w9 ⟨rfl, hb⟩; refine ⟨_, rfl, ?_⟩; replace BK145 := Sd.mk (blk_below (bkA BK145.out) hb); replace HB := Sd.mk (below_step (bBl HB.out) hb); (try clear hb); (try clear hb2); (try clear hk); (try clear hi); obtain ⟨u10_0, u10_1, u10_2, u10_3, u10_4, u10_5, u10_6, o10_0, o10_1, o10_2, o10_3, o10_4, o10_5, o10_6⟩ := bc7 (w := w9) BK145.out) | ((with_reducible refine gate_callee (f := 34) rfl ?_); refine goesL_ (some 14) rfl rfl Tryz.func34 (by kernel_rfl) rfl #[.agg #[.slice A0_0 l0_0.length c0_0, .slice A0_1 l0_1.length c0_1, .slice A0_2 l0_2.length c0_2, .slice A0_3 l0_3.length c0_3, .int .i64 a0_4, .int .i64 a0_5, .int .i64 a0_6]] rfl tM ?_; (with_reducible refine (b_checkMaterials.calls k _ _ l0_0 _ _ l0_1 _ _ l0_2 _ _ l0_3 a0_4 a0_5 a0_6 t147 _ (cS (Kd.C_below HR0_0.out HB.out)) HC0_0.out (cS (Kd.C_below HR0_1.out HB.out)) HC0_1.out (cS (Kd.C_below HR0_2.out HB.out)) HC0_2.out (cS (Kd.C_below HR0_3.out HB.out)) HC0_3.out A4.out).mono ?_); rintro e w11 ⟨rfl, hb⟩; refine ⟨_, rfl, ?_⟩; replace BK145 := Sd.mk (blk_below (bkA BK145.out) hb); replace HB := Sd.mk (below_step (bBl HB.out) hb); (try clear hb); (try clear hb2); (try clear hk); (try clear hi)))
   (try simp only [Act.put, List.setIfInBounds_toArray, List.set_cons_zero, List.set_cons_succ])
   go_cut [29] (fun v29 wc => ∃ (kq : Nat) (x29_5 : Bool), v29 = .bool x29_5 ∧ Sd (b_Check.j0 kq x29_5 l0_0 l0_1 l0_2 l0_3 a0_4 a0_5 a0_6 = some r) ∧ Sd (kq ≤ k) ∧ Sd (wc.heap[gb145]? = some (.cells #[(.slice A0_0 l0_0.length c0_0), (.slice A0_1 l0_1.length c0_1), (.slice A0_2 l0_2.length c0_2), (.slice A0_3 l0_3.length c0_3), .int .i64 a0_4, .int .i64 a0_5, .int .i64 a0_6] 29 (0, 0))) ∧ Sd (Below w.heap.size w wc))
   case first =>
    have H := HC6.out; clear HC6
    by_cases c12 : (l0_2.length : Int) = (l0_0.length : Int)
    ·rw [if_pos c12] at H
     have c12b0 : ((l0_2.length : Int) == (l0_0.length : Int)) = true := beq_iff_eq.mpr c12
     have c12b1 : ((l0_2.length : Int) != (l0_0.length : Int)) = false := bne_eq_false_iff_eq.mpr c12
     have c12b2 : (l0_2.length == l0_0.length) = true := by first | simpa using c12 | (simp at c12 ⊢; omega)
     clear c12
     (first | rw [c12b0] | (simp only [i64_w, i32_w]; rw [c12b0]) | skip)
     replace H := Option.bind_eq_some_iff.mp H; obtain ⟨t148, A130, H⟩ := H
     try dsimp only at H
     have A13 := Sd.mk A130; clear A130; have H' := Sd.mk H; clear H; obtain ⟨u14_0, u14_1, u14_2, u14_3, u14_4, u14_5, u14_6, o14_0, o14_1, o14_2, o14_3, o14_4, o14_5, o14_6⟩ := bc7 (w := w11) BK145.out
     go_wp2_with (first | (go_at_call 35; (with_reducible refine (x_spans.calls _ _ l0_2 t148 _ (cS (Kd.C_below HR0_2.out HB.out)) HC0_2.out A13.out).mono ?_); rintro e w15 ⟨rfl, hb⟩; replace BK145 := Sd.mk (blk_below (bkA BK145.out) hb); replace HB := Sd.mk (below_step (bBl HB.out) hb); (try clear hb); (try clear hb2); (try clear hk); (try clear hi)))
     go_meet
     case rel => exact ⟨_, (t148), tS, H', ⟨by first | omega | exact Nat.le_refl _⟩, ⟨bkA BK145.out⟩, ⟨bBl HB.out⟩⟩
    ·rw [if_neg c12] at H
     have c12b0 : ((l0_2.length : Int) == (l0_0.length : Int)) = false := beq_eq_false_iff_ne.mpr c12
     have c12b1 : ((l0_2.length : Int) != (l0_0.length : Int)) = true := bne_iff_ne.mpr c12
     have c12b2 : (l0_2.length == l0_0.length) = false := by first | simpa using c12 | (simp at c12 ⊢; omega)
     (first | rw [c12b0] | (simp only [i64_w, i32_w]; rw [c12b0]) | skip)
     have H' := Sd.mk H; clear H; obtain ⟨u16_0, u16_1, u16_2, u16_3, u16_4, u16_5, u16_6, o16_0, o16_1, o16_2, o16_3, o16_4, o16_5, o16_6⟩ := bc7 (w := w11) BK145.out
     go_wp2
     go_meet
     case rel => exact ⟨_, (true), tS, H', ⟨by first | omega | exact Nat.le_refl _⟩, ⟨bkA BK145.out⟩, ⟨bBl HB.out⟩⟩
   case rest =>
    clear HC6; (try clear c1); (try clear p2); (try clear c3); (try clear c3b0); (try clear c3b1); (try clear c5); (try clear c5b0); (try clear c5b1); (try clear c12); (try clear c12b0); (try clear c12b1); (try clear c12b2); (try clear c13); (try clear u10_0 u10_1 u10_2 u10_3 u10_4 u10_5 u10_6); (try clear u14_0 u14_1 u14_2 u14_3 u14_4 u14_5 u14_6); (try clear u16_0 u16_1 u16_2 u16_3 u16_4 u16_5 u16_6); (try clear u8_0 u8_1 u8_2 u8_3 u8_4 u8_5 u8_6); (try clear o10_0 o10_1 o10_2 o10_3 o10_4 o10_5 o10_6); (try clear o14_0 o14_1 o14_2 o14_3 o14_4 o14_5 o14_6); (try clear o16_0 o16_1 o16_2 o16_3 o16_4 o16_5 o16_6); (try clear o8_0 o8_1 o8_2 o8_3 o8_4 o8_5 o8_6); obtain ⟨kq, x29_5, rfl, HA, HJ5, BK145, HB⟩ := hcut
    cases kq with
    | zero => exact absurd HA.out (by simp [b_Check.j0])
    | succ kj5 =>
     have H := HA.out; clear HA
     simp only [b_Check.j0] at H
     by_cases c17 : x29_5 = true
     ·subst c17
      have H1 : (some 1) = some r := by rw [if_pos rfl] at H; exact H
      clear H; have H := H1; clear H1; obtain rfl := Option.some.inj H
      go_wp2
      go_ret
      exact ⟨tE, bBl HB.out⟩
     ·replace c17 := Bool.eq_false_iff.mpr c17
      subst c17
      have H1 : (if (l0_3.length : Int) > 6 then (some 3) else (b_Check.l0 kj5 l0_3 (l0_3.length : Int) 0 l0_0 l0_1 l0_2 l0_3 a0_4 a0_5 a0_6)) = some r := by rw [if_neg (show ¬ (false = true) by decide)] at H; exact H
      clear H; have H := H1; clear H1
      by_cases c18 : (l0_3.length : Int) > 6
      ·rw [if_pos c18] at H
       have c18b0 : decide (6 < (l0_3.length : Int)) = true := decide_eq_true c18
       have c18b1 : decide (6 < l0_3.length) = true := decide_eq_true (by omega)
       clear c18; obtain rfl := Option.some.inj H; obtain ⟨u19_0, u19_1, u19_2, u19_3, u19_4, u19_5, u19_6, o19_0, o19_1, o19_2, o19_3, o19_4, o19_5, o19_6⟩ := bc7 (w := wc) BK145.out
       go_wp2
       go_ret
       exact ⟨tE, bBl HB.out⟩
      ·rw [if_neg c18] at H
       have c18b0 : decide (6 < (l0_3.length : Int)) = false := decide_eq_false c18
       have c18b1 : decide (6 < l0_3.length) = false := decide_eq_false (by omega)
       clear c18; have H' := Sd.mk H; clear H; obtain ⟨u20_0, u20_1, u20_2, u20_3, u20_4, u20_5, u20_6, o20_0, o20_1, o20_2, o20_3, o20_4, o20_5, o20_6⟩ := bc7 (w := wc) BK145.out
       go_wp2
       go_loopg [37] kj5 (fun kq v37 w' => ∃ (x37_2 : Int), v37 = .int .i64 x37_2 ∧ Sd (b_Check.l0 kq l0_3 (l0_3.length : Int) x37_2 l0_0 l0_1 l0_2 l0_3 a0_4 a0_5 a0_6 = some r) ∧ Sd (kq ≤ kj5) ∧ Sd (w'.heap[gb145]? = some (.cells #[(.slice A0_0 l0_0.length c0_0), (.slice A0_1 l0_1.length c0_1), (.slice A0_2 l0_2.length c0_2), (.slice A0_3 l0_3.length c0_3), .int .i64 a0_4, .int .i64 a0_5, .int .i64 a0_6] 29 (0, 0))) ∧ Sd (Below w.heap.size w w'))
       case atStart => exact ⟨(0), tS, H', ⟨Nat.le_refl _⟩, ⟨bkA BK145.out⟩, ⟨bBl HB.out⟩⟩
       case round =>
        clear H'; (try clear c1); (try clear p2 p2); (try clear c3); (try clear c3b0); (try clear c3b1); (try clear c5); (try clear c5b0); (try clear c5b1); (try clear c12); (try clear c12b0); (try clear c12b1); (try clear c12b2); (try clear c13); (try clear c17); (try clear c18); (try clear c18b0); (try clear c18b1); (try clear u10_0 u10_1 u10_2 u10_3 u10_4 u10_5 u10_6); (try clear u14_0 u14_1 u14_2 u14_3 u14_4 u14_5 u14_6); (try clear u16_0 u16_1 u16_2 u16_3 u16_4 u16_5 u16_6); (try clear u19_0 u19_1 u19_2 u19_3 u19_4 u19_5 u19_6); (try clear u20_0 u20_1 u20_2 u20_3 u20_4 u20_5 u20_6); (try clear u8_0 u8_1 u8_2 u8_3 u8_4 u8_5 u8_6); (try clear o10_0 o10_1 o10_2 o10_3 o10_4 o10_5 o10_6); (try clear o14_0 o14_1 o14_2 o14_3 o14_4 o14_5 o14_6); (try clear o16_0 o16_1 o16_2 o16_3 o16_4 o16_5 o16_6); (try clear o19_0 o19_1 o19_2 o19_3 o19_4 o19_5 o19_6); (try clear o20_0 o20_1 o20_2 o20_3 o20_4 o20_5 o20_6); (try clear o8_0 o8_1 o8_2 o8_3 o8_4 o8_5 o8_6); obtain ⟨x37_2, rfl, HA, HK2, BK145, HB⟩ := hrel
        cases gk with
        | zero => exact absurd HA.out (by simp [b_Check.l0])
        | succ k2 =>
         have H := HA.out; clear HA
         simp only [b_Check.l0] at H
         by_cases c21 : x37_2 < (l0_3.length : Int)
         ·rw [if_pos c21] at H
          have c21b0 : decide (x37_2 < (l0_3.length : Int)) = true := decide_eq_true c21
          clear c21
          by_cases c22 : 0 ≤ x37_2
          ·rw [if_pos c22] at H
           have c22b0 : decide (0 ≤ x37_2) = true := decide_eq_true c22
           clear c22
           by_cases c23 : x37_2 < (l0_3.length : Int)
           ·rw [if_pos c23] at H
            have c23b0 : decide (x37_2 < (l0_3.length : Int)) = true := decide_eq_true c23
            clear c23; replace H := Option.bind_eq_some_iff.mp H; obtain ⟨t151, A240, H⟩ := H
            try dsimp only at H
            have A24 := Sd.mk A240; clear A240
            by_cases c25 : t151 = true
            ·subst c25
             have H1 : ((x_twiceP.f l0_3 x37_2).bind fun t152 => (if t152 = true then (some 6) else ((b_checkProperty.f l0_0 l0_1 l0_2 l0_3 a0_4 a0_5 a0_6 ((rd_T77 l0_3 x37_2).f0) ((rd_T77 l0_3 x37_2).f1) ((rd_T77 l0_3 x37_2).f2.f0) ((rd_T77 l0_3 x37_2).f2.f1)).bind fun t153 => (if t153 = 0 then (b_Check.l0 k2 l0_3 (l0_3.length : Int) (wrap64 (x37_2 + 1)) l0_0 l0_1 l0_2 l0_3 a0_4 a0_5 a0_6) else (some t153))))) = some r := by rw [if_pos rfl] at H; exact H
             clear H; have H := H1; clear H1; replace H := Option.bind_eq_some_iff.mp H; obtain ⟨t152, A260, H⟩ := H
             try dsimp only at H
             have A26 := Sd.mk A260; clear A260
             by_cases c27 : t152 = true
             ·subst c27
              have H1 : (some 6) = some r := by rw [if_pos rfl] at H; exact H
              clear H; have H := H1; clear H1; obtain rfl := Option.some.inj H
              have p149 : 0 ≤ (x37_2 : Int) := tB
              have q149 : x37_2 < (l0_3.length : Int) := tB
              obtain ⟨ad149, A149_1, c149_1, e149, hx149_0, hx149_1, hx149_2, hx149_3, hl149_1, hi149_1⟩ := at_T77 HR0_3.out x37_2 p149 q149; cases e149; replace hx149_0 := cU HB hx149_0; replace hx149_1 := cU HB hx149_1; replace hx149_2 := cU HB hx149_2; replace hx149_3 := cU HB hx149_3; have HR149_1 := Sd.mk hi149_1; have HC149_1 := Sd.mk hl149_1; clear hi149_1 hl149_1; replace p149 := eq_true p149; replace q149 := eq_true q149
              go_wp2_with (first | ((with_reducible refine gate_dst (N := 6) rfl ?_); refine box_event ?hg (N := 6) ?hd (cs := #[.string (⟨#[]⟩ : ByteArray), .slice none 0 0, .int .i64 0, .int .i64 0]) (t := 77) ?hr ?_; (case hd => rfl); (case hg => rfl); (case hr => exact tG); intro gb150 hg w28 hbox hb; have BK150 := Sd.mk (hbox); have GW150 := Sd.mk (bSz hg (bBl HB.out)); have GE150 := Sd.mk (bSz hg (bBl HB.out)); replace HB := Sd.mk (below_step (bBl HB.out) hb); have NB145_150 := Sd.mk (bNl hg (bkA BK145.out)); have NB150_145 := Sd.mk (bNg hg (bkA BK145.out)); replace BK145 := Sd.mk (blk_below (bkA BK145.out) hb); clear hb hbox hg; have hnb29 := NB150_145.out; have hnc29 := NB145_150.out; obtain ⟨u30_0, u30_1, u30_2, u30_3, o30_0, o30_1, o30_2, o30_3⟩ := bc4 (w := w28) BK150.out) | ((with_reducible refine gate_callee (f := 38) rfl ?_); refine goesL_ (some 45) rfl rfl Tryz.func38 (by kernel_rfl) rfl #[.string ((rd_T77 l0_3 x37_2).f0)] rfl tM ?_; (with_reducible refine (b_name.calls k2 ((rd_T77 l0_3 x37_2).f0) true _ A24.out).mono ?_); rintro e w' ⟨rfl, ⟨nd, rfl⟩⟩; refine ⟨_, rfl, ?_⟩; obtain ⟨u31_0, u31_1, u31_2, u31_3, u31_4, u31_5, u31_6, o31_0, o31_1, o31_2, o31_3, o31_4, o31_5, o31_6⟩ := bc7 (w := w28) BK145.out) | ((with_reducible refine gate_callee (f := 39) rfl ?_); refine goesL_ (some 51) rfl rfl Tryz.func39 (by kernel_rfl) rfl #[.slice (some ad149) l0_3.length c0_3, .int .i64 x37_2, .func (.func 40) #[] #[]] rfl tM ?_; (with_reducible refine (x_twiceP.calls _ _ l0_3 x37_2 true _ (Kd.C_below HR0_3.out (bBl HB.out)) HC0_3.out A26.out).mono ?_); rintro e w32 ⟨rfl, hb⟩; refine ⟨_, rfl, ?_⟩; replace BK145 := Sd.mk (blk_below (g := gb145) (o := .cells #[.slice A0_0 l0_0.length c0_0, .slice A0_1 l0_1.length c0_1, .slice A0_2 l0_2.length c0_2, .slice (some ad149) l0_3.length c0_3, .int .i64 a0_4, .int .i64 a0_5, .int .i64 a0_6] 29 (0, 0)) (by (with_reducible repeat (first | refine blk_drewN ?_ _ | refine blk_drew ?_ | refine blk_alloc ?_ _)); refine blk_far ?_ NB145_150.out _; (with_reducible repeat (first | refine blk_drewN ?_ _ | refine blk_drew ?_ | refine blk_alloc ?_ _)); refine blk_far ?_ NB145_150.out _; (with_reducible repeat (first | refine blk_drewN ?_ _ | refine blk_drew ?_ | refine blk_alloc ?_ _)); refine blk_far ?_ NB145_150.out _; (with_reducible repeat (first | refine blk_drewN ?_ _ | refine blk_drew ?_ | refine blk_alloc ?_ _)); refine blk_far ?_ NB145_150.out _; (with_reducible repeat (first | refine blk_drewN ?_ _ | refine blk_drew ?_ | refine blk_alloc ?_ _)); exact BK145.out) hb); replace BK150 := Sd.mk (blk_below (g := gb150) (o := .cells #[.string ((rd_T77 l0_3 x37_2).f0), .slice A149_1 ((rd_T77 l0_3 x37_2).f1).length c149_1, .int .i64 ((rd_T77 l0_3 x37_2).f2.f0), .int .i64 ((rd_T77 l0_3 x37_2).f2.f1)] 77 (0, 0)) (by (with_reducible repeat (first | refine blk_drewN ?_ _ | refine blk_drew ?_ | refine blk_alloc ?_ _)); refine blk_put (cs := #[.string ((rd_T77 l0_3 x37_2).f0), .slice A149_1 ((rd_T77 l0_3 x37_2).f1).length c149_1, .int .i64 ((rd_T77 l0_3 x37_2).f2.f0), .int .i64 0]) ?_ 3 _ rfl; (with_reducible repeat (first | refine blk_drewN ?_ _ | refine blk_drew ?_ | refine blk_alloc ?_ _)); refine blk_put (cs := #[.string ((rd_T77 l0_3 x37_2).f0), .slice A149_1 ((rd_T77 l0_3 x37_2).f1).length c149_1, .int .i64 0, .int .i64 0]) ?_ 2 _ rfl; (with_reducible repeat (first | refine blk_drewN ?_ _ | refine blk_drew ?_ | refine blk_alloc ?_ _)); refine blk_put (cs := #[.string ((rd_T77 l0_3 x37_2).f0), .slice none 0 0, .int .i64 0, .int .i64 0]) ?_ 1 _ rfl; (with_reducible repeat (first | refine blk_drewN ?_ _ | refine blk_drew ?_ | refine blk_alloc ?_ _)); refine blk_put (cs := #[.string (⟨#[]⟩ : ByteArray), .slice none 0 0, .int .i64 0, .int .i64 0]) ?_ 0 _ rfl; (with_reducible repeat (first | refine blk_drewN ?_ _ | refine blk_drew ?_ | refine blk_alloc ?_ _)); exact BK150.out) hb); replace HB := Sd.mk (below_step (bBl HB.out) hb); (try clear hb); (try clear hb2); (try clear hk); (try clear hi)))
              go_ret
              exact ⟨tE, bBl HB.out⟩
             ·replace c27 := Bool.eq_false_iff.mpr c27
              subst c27
              have H1 : ((b_checkProperty.f l0_0 l0_1 l0_2 l0_3 a0_4 a0_5 a0_6 ((rd_T77 l0_3 x37_2).f0) ((rd_T77 l0_3 x37_2).f1) ((rd_T77 l0_3 x37_2).f2.f0) ((rd_T77 l0_3 x37_2).f2.f1)).bind fun t153 => (if t153 = 0 then (b_Check.l0 k2 l0_3 (l0_3.length : Int) (wrap64 (x37_2 + 1)) l0_0 l0_1 l0_2 l0_3 a0_4 a0_5 a0_6) else (some t153))) = some r := by rw [if_neg (show ¬ (false = true) by decide)] at H; exact H
              clear H; have H := H1; clear H1; replace H := Option.bind_eq_some_iff.mp H; obtain ⟨t153, A330, H⟩ := H
              try dsimp only at H
              have A33 := Sd.mk A330; clear A330
              by_cases c34 : t153 = 0
              ·rw [if_pos c34] at H
               have c34b0 : (t153 == 0) = true := beq_iff_eq.mpr c34
               have c34b1 : (t153 != 0) = false := bne_eq_false_iff_eq.mpr c34
               clear c34; have H' := Sd.mk H; clear H
               have p149 : 0 ≤ (x37_2 : Int) := tB
               have q149 : x37_2 < (l0_3.length : Int) := tB
               obtain ⟨ad149, A149_1, c149_1, e149, hx149_0, hx149_1, hx149_2, hx149_3, hl149_1, hi149_1⟩ := at_T77 HR0_3.out x37_2 p149 q149; cases e149; replace hx149_0 := cU HB hx149_0; replace hx149_1 := cU HB hx149_1; replace hx149_2 := cU HB hx149_2; replace hx149_3 := cU HB hx149_3; have HR149_1 := Sd.mk hi149_1; have HC149_1 := Sd.mk hl149_1; clear hi149_1 hl149_1; replace p149 := eq_true p149; replace q149 := eq_true q149
               go_wp2_with (first | ((with_reducible refine gate_dst (N := 6) rfl ?_); refine box_event ?hg (N := 6) ?hd (cs := #[.string (⟨#[]⟩ : ByteArray), .slice none 0 0, .int .i64 0, .int .i64 0]) (t := 77) ?hr ?_; (case hd => rfl); (case hg => rfl); (case hr => exact tG); intro gb150 hg w35 hbox hb; have BK150 := Sd.mk (hbox); have GW150 := Sd.mk (bSz hg (bBl HB.out)); have GE150 := Sd.mk (bSz hg (bBl HB.out)); replace HB := Sd.mk (below_step (bBl HB.out) hb); have NB145_150 := Sd.mk (bNl hg (bkA BK145.out)); have NB150_145 := Sd.mk (bNg hg (bkA BK145.out)); replace BK145 := Sd.mk (blk_below (bkA BK145.out) hb); clear hb hbox hg; have hnb36 := NB150_145.out; have hnc36 := NB145_150.out; obtain ⟨u37_0, u37_1, u37_2, u37_3, o37_0, o37_1, o37_2, o37_3⟩ := bc4 (w := w35) BK150.out) | ((with_reducible refine gate_callee (f := 38) rfl ?_); refine goesL_ (some 45) rfl rfl Tryz.func38 (by kernel_rfl) rfl #[.string ((rd_T77 l0_3 x37_2).f0)] rfl tM ?_; (with_reducible refine (b_name.calls k2 ((rd_T77 l0_3 x37_2).f0) true _ A24.out).mono ?_); rintro e w' ⟨rfl, ⟨nd, rfl⟩⟩; refine ⟨_, rfl, ?_⟩; obtain ⟨u38_0, u38_1, u38_2, u38_3, u38_4, u38_5, u38_6, o38_0, o38_1, o38_2, o38_3, o38_4, o38_5, o38_6⟩ := bc7 (w := w35) BK145.out) | ((with_reducible refine gate_callee (f := 39) rfl ?_); refine goesL_ (some 51) rfl rfl Tryz.func39 (by kernel_rfl) rfl #[.slice (some ad149) l0_3.length c0_3, .int .i64 x37_2, .func (.func 40) #[] #[]] rfl tM ?_; (with_reducible refine (x_twiceP.calls _ _ l0_3 x37_2 false _ (Kd.C_below HR0_3.out (bBl HB.out)) HC0_3.out A26.out).mono ?_); rintro e w39 ⟨rfl, hb⟩; refine ⟨_, rfl, ?_⟩; replace BK145 := Sd.mk (blk_below (g := gb145) (o := .cells #[.slice A0_0 l0_0.length c0_0, .slice A0_1 l0_1.length c0_1, .slice A0_2 l0_2.length c0_2, .slice (some ad149) l0_3.length c0_3, .int .i64 a0_4, .int .i64 a0_5, .int .i64 a0_6] 29 (0, 0)) (by (with_reducible repeat (first | refine blk_drewN ?_ _ | refine blk_drew ?_ | refine blk_alloc ?_ _)); refine blk_far ?_ NB145_150.out _; (with_reducible repeat (first | refine blk_drewN ?_ _ | refine blk_drew ?_ | refine blk_alloc ?_ _)); refine blk_far ?_ NB145_150.out _; (with_reducible repeat (first | refine blk_drewN ?_ _ | refine blk_drew ?_ | refine blk_alloc ?_ _)); refine blk_far ?_ NB145_150.out _; (with_reducible repeat (first | refine blk_drewN ?_ _ | refine blk_drew ?_ | refine blk_alloc ?_ _)); refine blk_far ?_ NB145_150.out _; (with_reducible repeat (first | refine blk_drewN ?_ _ | refine blk_drew ?_ | refine blk_alloc ?_ _)); exact BK145.out) hb); replace BK150 := Sd.mk (blk_below (g := gb150) (o := .cells #[.string ((rd_T77 l0_3 x37_2).f0), .slice A149_1 ((rd_T77 l0_3 x37_2).f1).length c149_1, .int .i64 ((rd_T77 l0_3 x37_2).f2.f0), .int .i64 ((rd_T77 l0_3 x37_2).f2.f1)] 77 (0, 0)) (by (with_reducible repeat (first | refine blk_drewN ?_ _ | refine blk_drew ?_ | refine blk_alloc ?_ _)); refine blk_put (cs := #[.string ((rd_T77 l0_3 x37_2).f0), .slice A149_1 ((rd_T77 l0_3 x37_2).f1).length c149_1, .int .i64 ((rd_T77 l0_3 x37_2).f2.f0), .int .i64 0]) ?_ 3 _ rfl; (with_reducible repeat (first | refine blk_drewN ?_ _ | refine blk_drew ?_ | refine blk_alloc ?_ _)); refine blk_put (cs := #[.string ((rd_T77 l0_3 x37_2).f0), .slice A149_1 ((rd_T77 l0_3 x37_2).f1).length c149_1, .int .i64 0, .int .i64 0]) ?_ 2 _ rfl; (with_reducible repeat (first | refine blk_drewN ?_ _ | refine blk_drew ?_ | refine blk_alloc ?_ _)); refine blk_put (cs := #[.string ((rd_T77 l0_3 x37_2).f0), .slice none 0 0, .int .i64 0, .int .i64 0]) ?_ 1 _ rfl; (with_reducible repeat (first | refine blk_drewN ?_ _ | refine blk_drew ?_ | refine blk_alloc ?_ _)); refine blk_put (cs := #[.string (⟨#[]⟩ : ByteArray), .slice none 0 0, .int .i64 0, .int .i64 0]) ?_ 0 _ rfl; (with_reducible repeat (first | refine blk_drewN ?_ _ | refine blk_drew ?_ | refine blk_alloc ?_ _)); exact BK150.out) hb); replace HB := Sd.mk (below_step (bBl HB.out) hb); (try clear hb); (try clear hb2); (try clear hk); (try clear hi); obtain ⟨u40_0, u40_1, u40_2, u40_3, u40_4, u40_5, u40_6, o40_0, o40_1, o40_2, o40_3, o40_4, o40_5, o40_6⟩ := bc7 (w := w39) BK145.out; obtain ⟨u41_0, u41_1, u41_2, u41_3, o41_0, o41_1, o41_2, o41_3⟩ := bc4 (w := w39) BK150.out) | ((with_reducible refine gate_callee (f := 41) rfl ?_); refine goesL_ (some 54) rfl rfl Tryz.func41 (by kernel_rfl) rfl #[.agg #[.slice A0_0 l0_0.length c0_0, .slice A0_1 l0_1.length c0_1, .slice A0_2 l0_2.length c0_2, .slice (some ad149) l0_3.length c0_3, .int .i64 a0_4, .int .i64 a0_5, .int .i64 a0_6], .agg #[.string ((rd_T77 l0_3 x37_2).f0), .slice A149_1 ((rd_T77 l0_3 x37_2).f1).length c149_1, .int .i64 ((rd_T77 l0_3 x37_2).f2.f0), .int .i64 ((rd_T77 l0_3 x37_2).f2.f1)]] rfl tM ?_; (with_reducible refine (b_checkProperty.calls _ _ l0_0 _ _ l0_1 _ _ l0_2 _ _ l0_3 a0_4 a0_5 a0_6 ((rd_T77 l0_3 x37_2).f0) _ _ ((rd_T77 l0_3 x37_2).f1) ((rd_T77 l0_3 x37_2).f2.f0) ((rd_T77 l0_3 x37_2).f2.f1) t153 _ (cS (Kd.C_below HR0_0.out HB.out)) HC0_0.out (cS (Kd.C_below HR0_1.out HB.out)) HC0_1.out (cS (Kd.C_below HR0_2.out HB.out)) HC0_2.out (cS (Kd.C_below HR0_3.out HB.out)) HC0_3.out (cS (Kd.C_below HR149_1.out HB.out)) HC149_1.out A33.out).mono ?_); rintro e w42 ⟨rfl, hb⟩; refine ⟨_, rfl, ?_⟩; replace BK145 := Sd.mk (blk_below (bkA BK145.out) hb); replace BK150 := Sd.mk (blk_below (bkA BK150.out) hb); replace HB := Sd.mk (below_step (bBl HB.out) hb); (try clear hb); (try clear hb2); (try clear hk); (try clear hi)))
               go_roundg k2
               case measure => have := HJ5.out; have := HK2.out; omega
               case rel => exact ⟨(wrap64 (x37_2 + 1)), tS, H', ⟨by have := HJ5.out; have := HK2.out; omega⟩, ⟨bkA BK145.out⟩, ⟨bBl HB.out⟩⟩
              ·rw [if_neg c34] at H
               have c34b0 : (t153 == 0) = false := beq_eq_false_iff_ne.mpr c34
               have c34b1 : (t153 != 0) = true := bne_iff_ne.mpr c34
               obtain rfl := Option.some.inj H
               have p149 : 0 ≤ (x37_2 : Int) := tB
               have q149 : x37_2 < (l0_3.length : Int) := tB
               obtain ⟨ad149, A149_1, c149_1, e149, hx149_0, hx149_1, hx149_2, hx149_3, hl149_1, hi149_1⟩ := at_T77 HR0_3.out x37_2 p149 q149; cases e149; replace hx149_0 := cU HB hx149_0; replace hx149_1 := cU HB hx149_1; replace hx149_2 := cU HB hx149_2; replace hx149_3 := cU HB hx149_3; have HR149_1 := Sd.mk hi149_1; have HC149_1 := Sd.mk hl149_1; clear hi149_1 hl149_1; replace p149 := eq_true p149; replace q149 := eq_true q149
               go_wp2_with (first | ((with_reducible refine gate_dst (N := 6) rfl ?_); refine box_event ?hg (N := 6) ?hd (cs := #[.string (⟨#[]⟩ : ByteArray), .slice none 0 0, .int .i64 0, .int .i64 0]) (t := 77) ?hr ?_; (case hd => rfl); (case hg => rfl); (case hr => exact tG); intro gb150 hg w43 hbox hb; have BK150 := Sd.mk (hbox); have GW150 := Sd.mk (bSz hg (bBl HB.out)); have GE150 := Sd.mk (bSz hg (bBl HB.out)); replace HB := Sd.mk (below_step (bBl HB.out) hb); have NB145_150 := Sd.mk (bNl hg (bkA BK145.out)); have NB150_145 := Sd.mk (bNg hg (bkA BK145.out)); replace BK145 := Sd.mk (blk_below (bkA BK145.out) hb); clear hb hbox hg; have hnb44 := NB150_145.out; have hnc44 := NB145_150.out; obtain ⟨u45_0, u45_1, u45_2, u45_3, o45_0, o45_1, o45_2, o45_3⟩ := bc4 (w := w43) BK150.out) | ((with_reducible refine gate_callee (f := 38) rfl ?_); refine goesL_ (some 45) rfl rfl Tryz.func38 (by kernel_rfl) rfl #[.string ((rd_T77 l0_3 x37_2).f0)] rfl tM ?_; (with_reducible refine (b_name.calls k2 ((rd_T77 l0_3 x37_2).f0) true _ A24.out).mono ?_); rintro e w' ⟨rfl, ⟨nd, rfl⟩⟩; refine ⟨_, rfl, ?_⟩; obtain ⟨u46_0, u46_1, u46_2, u46_3, u46_4, u46_5, u46_6, o46_0, o46_1, o46_2, o46_3, o46_4, o46_5, o46_6⟩ := bc7 (w := w43) BK145.out) | ((with_reducible refine gate_callee (f := 39) rfl ?_); refine goesL_ (some 51) rfl rfl Tryz.func39 (by kernel_rfl) rfl #[.slice (some ad149) l0_3.length c0_3, .int .i64 x37_2, .func (.func 40) #[] #[]] rfl tM ?_; (with_reducible refine (x_twiceP.calls _ _ l0_3 x37_2 false _ (Kd.C_below HR0_3.out (bBl HB.out)) HC0_3.out A26.out).mono ?_); rintro e w47 ⟨rfl, hb⟩; refine ⟨_, rfl, ?_⟩; replace BK145 := Sd.mk (blk_below (g := gb145) (o := .cells #[.slice A0_0 l0_0.length c0_0, .slice A0_1 l0_1.length c0_1, .slice A0_2 l0_2.length c0_2, .slice (some ad149) l0_3.length c0_3, .int .i64 a0_4, .int .i64 a0_5, .int .i64 a0_6] 29 (0, 0)) (by (with_reducible repeat (first | refine blk_drewN ?_ _ | refine blk_drew ?_ | refine blk_alloc ?_ _)); refine blk_far ?_ NB145_150.out _; (with_reducible repeat (first | refine blk_drewN ?_ _ | refine blk_drew ?_ | refine blk_alloc ?_ _)); refine blk_far ?_ NB145_150.out _; (with_reducible repeat (first | refine blk_drewN ?_ _ | refine blk_drew ?_ | refine blk_alloc ?_ _)); refine blk_far ?_ NB145_150.out _; (with_reducible repeat (first | refine blk_drewN ?_ _ | refine blk_drew ?_ | refine blk_alloc ?_ _)); refine blk_far ?_ NB145_150.out _; (with_reducible repeat (first | refine blk_drewN ?_ _ | refine blk_drew ?_ | refine blk_alloc ?_ _)); exact BK145.out) hb); replace BK150 := Sd.mk (blk_below (g := gb150) (o := .cells #[.string ((rd_T77 l0_3 x37_2).f0), .slice A149_1 ((rd_T77 l0_3 x37_2).f1).length c149_1, .int .i64 ((rd_T77 l0_3 x37_2).f2.f0), .int .i64 ((rd_T77 l0_3 x37_2).f2.f1)] 77 (0, 0)) (by (with_reducible repeat (first | refine blk_drewN ?_ _ | refine blk_drew ?_ | refine blk_alloc ?_ _)); refine blk_put (cs := #[.string ((rd_T77 l0_3 x37_2).f0), .slice A149_1 ((rd_T77 l0_3 x37_2).f1).length c149_1, .int .i64 ((rd_T77 l0_3 x37_2).f2.f0), .int .i64 0]) ?_ 3 _ rfl; (with_reducible repeat (first | refine blk_drewN ?_ _ | refine blk_drew ?_ | refine blk_alloc ?_ _)); refine blk_put (cs := #[.string ((rd_T77 l0_3 x37_2).f0), .slice A149_1 ((rd_T77 l0_3 x37_2).f1).length c149_1, .int .i64 0, .int .i64 0]) ?_ 2 _ rfl; (with_reducible repeat (first | refine blk_drewN ?_ _ | refine blk_drew ?_ | refine blk_alloc ?_ _)); refine blk_put (cs := #[.string ((rd_T77 l0_3 x37_2).f0), .slice none 0 0, .int .i64 0, .int .i64 0]) ?_ 1 _ rfl; (with_reducible repeat (first | refine blk_drewN ?_ _ | refine blk_drew ?_ | refine blk_alloc ?_ _)); refine blk_put (cs := #[.string (⟨#[]⟩ : ByteArray), .slice none 0 0, .int .i64 0, .int .i64 0]) ?_ 0 _ rfl; (with_reducible repeat (first | refine blk_drewN ?_ _ | refine blk_drew ?_ | refine blk_alloc ?_ _)); exact BK150.out) hb); replace HB := Sd.mk (below_step (bBl HB.out) hb); (try clear hb); (try clear hb2); (try clear hk); (try clear hi); obtain ⟨u48_0, u48_1, u48_2, u48_3, u48_4, u48_5, u48_6, o48_0, o48_1, o48_2, o48_3, o48_4, o48_5, o48_6⟩ := bc7 (w := w47) BK145.out; obtain ⟨u49_0, u49_1, u49_2, u49_3, o49_0, o49_1, o49_2, o49_3⟩ := bc4 (w := w47) BK150.out) | ((with_reducible refine gate_callee (f := 41) rfl ?_); refine goesL_ (some 54) rfl rfl Tryz.func41 (by kernel_rfl) rfl #[.agg #[.slice A0_0 l0_0.length c0_0, .slice A0_1 l0_1.length c0_1, .slice A0_2 l0_2.length c0_2, .slice (some ad149) l0_3.length c0_3, .int .i64 a0_4, .int .i64 a0_5, .int .i64 a0_6], .agg #[.string ((rd_T77 l0_3 x37_2).f0), .slice A149_1 ((rd_T77 l0_3 x37_2).f1).length c149_1, .int .i64 ((rd_T77 l0_3 x37_2).f2.f0), .int .i64 ((rd_T77 l0_3 x37_2).f2.f1)]] rfl tM ?_; (with_reducible refine (b_checkProperty.calls _ _ l0_0 _ _ l0_1 _ _ l0_2 _ _ l0_3 a0_4 a0_5 a0_6 ((rd_T77 l0_3 x37_2).f0) _ _ ((rd_T77 l0_3 x37_2).f1) ((rd_T77 l0_3 x37_2).f2.f0) ((rd_T77 l0_3 x37_2).f2.f1) t153 _ (cS (Kd.C_below HR0_0.out HB.out)) HC0_0.out (cS (Kd.C_below HR0_1.out HB.out)) HC0_1.out (cS (Kd.C_below HR0_2.out HB.out)) HC0_2.out (cS (Kd.C_below HR0_3.out HB.out)) HC0_3.out (cS (Kd.C_below HR149_1.out HB.out)) HC149_1.out A33.out).mono ?_); rintro e w50 ⟨rfl, hb⟩; refine ⟨_, rfl, ?_⟩; replace BK145 := Sd.mk (blk_below (bkA BK145.out) hb); replace BK150 := Sd.mk (blk_below (bkA BK150.out) hb); replace HB := Sd.mk (below_step (bBl HB.out) hb); (try clear hb); (try clear hb2); (try clear hk); (try clear hi)))
               go_ret
               exact ⟨tE, bBl HB.out⟩
            ·replace c25 := Bool.eq_false_iff.mpr c25
             subst c25
             have H1 : (some 5) = some r := by rw [if_neg (show ¬ (false = true) by decide)] at H; exact H
             clear H; have H := H1; clear H1; obtain rfl := Option.some.inj H
             have p149 : 0 ≤ (x37_2 : Int) := tB
             have q149 : x37_2 < (l0_3.length : Int) := tB
             obtain ⟨ad149, A149_1, c149_1, e149, hx149_0, hx149_1, hx149_2, hx149_3, hl149_1, hi149_1⟩ := at_T77 HR0_3.out x37_2 p149 q149; cases e149; replace hx149_0 := cU HB hx149_0; replace hx149_1 := cU HB hx149_1; replace hx149_2 := cU HB hx149_2; replace hx149_3 := cU HB hx149_3; have HR149_1 := Sd.mk hi149_1; have HC149_1 := Sd.mk hl149_1; clear hi149_1 hl149_1; replace p149 := eq_true p149; replace q149 := eq_true q149
             go_wp2_with (first | ((with_reducible refine gate_dst (N := 6) rfl ?_); refine box_event ?hg (N := 6) ?hd (cs := #[.string (⟨#[]⟩ : ByteArray), .slice none 0 0, .int .i64 0, .int .i64 0]) (t := 77) ?hr ?_; (case hd => rfl); (case hg => rfl); (case hr => exact tG); intro gb150 hg w51 hbox hb; have BK150 := Sd.mk (hbox); have GW150 := Sd.mk (bSz hg (bBl HB.out)); have GE150 := Sd.mk (bSz hg (bBl HB.out)); replace HB := Sd.mk (below_step (bBl HB.out) hb); have NB145_150 := Sd.mk (bNl hg (bkA BK145.out)); have NB150_145 := Sd.mk (bNg hg (bkA BK145.out)); replace BK145 := Sd.mk (blk_below (bkA BK145.out) hb); clear hb hbox hg; have hnb52 := NB150_145.out; have hnc52 := NB145_150.out; obtain ⟨u53_0, u53_1, u53_2, u53_3, o53_0, o53_1, o53_2, o53_3⟩ := bc4 (w := w51) BK150.out) | ((with_reducible refine gate_callee (f := 38) rfl ?_); refine goesL_ (some 45) rfl rfl Tryz.func38 (by kernel_rfl) rfl #[.string ((rd_T77 l0_3 x37_2).f0)] rfl tM ?_; (with_reducible refine (b_name.calls k2 ((rd_T77 l0_3 x37_2).f0) false _ A24.out).mono ?_); rintro e w' ⟨rfl, ⟨nd, rfl⟩⟩; refine ⟨_, rfl, ?_⟩))
             go_ret
             exact ⟨tE, bBl HB.out⟩
           ·rw [if_neg c23] at H
            exact absurd H (by simp)
          ·rw [if_neg c22] at H
           exact absurd H (by simp)
         ·rw [if_neg c21] at H
          have c21b0 : decide (x37_2 < (l0_3.length : Int)) = false := decide_eq_false c21
          clear c21; replace H := Option.bind_eq_some_iff.mp H; obtain ⟨t154, A540, H⟩ := H
          try dsimp only at H
          have A54 := Sd.mk A540; clear A540
          by_cases c55 : t154 = true
          ·subst c55
           have H1 : ((b_within.f a0_6 1 10000).bind fun t155 => (if t155 = true then (some 0) else (some 1))) = some r := by rw [if_pos rfl] at H; exact H
           clear H; have H := H1; clear H1; replace H := Option.bind_eq_some_iff.mp H; obtain ⟨t155, A560, H⟩ := H
           try dsimp only at H
           have A56 := Sd.mk A560; clear A560
           by_cases c57 : t155 = true
           ·subst c57
            have H1 : (some 0) = some r := by rw [if_pos rfl] at H; exact H
            clear H; have H := H1; clear H1; obtain rfl := Option.some.inj H; obtain ⟨u58_0, u58_1, u58_2, u58_3, u58_4, u58_5, u58_6, o58_0, o58_1, o58_2, o58_3, o58_4, o58_5, o58_6⟩ := bc7 (w := wr) BK145.out
            go_wp2_with (first | ((with_reducible refine gate_callee (f := 37) rfl ?_); refine goesL_ (some 61) rfl rfl Tryz.func37 (by kernel_rfl) rfl #[.agg #[.int .i64 a0_4, .int .i64 a0_5], .int .i64 (-10000), .int .i64 10000] rfl tM ?_; (with_reducible refine (b_span.calls a0_4 a0_5 (-10000) 10000 true _ A54.out).mono ?_); rintro e w59 ⟨rfl, hb⟩; refine ⟨_, rfl, ?_⟩; replace BK145 := Sd.mk (blk_below (bkA BK145.out) hb); replace HB := Sd.mk (below_step (bBl HB.out) hb); (try clear hb); (try clear hb2); (try clear hk); (try clear hi); obtain ⟨u60_0, u60_1, u60_2, u60_3, u60_4, u60_5, u60_6, o60_0, o60_1, o60_2, o60_3, o60_4, o60_5, o60_6⟩ := bc7 (w := w59) BK145.out) | (go_at_call 26; (with_reducible refine (b_within.calls a0_6 1 10000 true _ A56.out).mono ?_); rintro e w' ⟨rfl, ⟨nd, rfl⟩⟩))
            go_ret
            exact ⟨tE, bBl HB.out⟩
           ·replace c57 := Bool.eq_false_iff.mpr c57
            subst c57
            have H1 : (some 1) = some r := by rw [if_neg (show ¬ (false = true) by decide)] at H; exact H
            clear H; have H := H1; clear H1; obtain rfl := Option.some.inj H; obtain ⟨u61_0, u61_1, u61_2, u61_3, u61_4, u61_5, u61_6, o61_0, o61_1, o61_2, o61_3, o61_4, o61_5, o61_6⟩ := bc7 (w := wr) BK145.out
            go_wp2_with (first | ((with_reducible refine gate_callee (f := 37) rfl ?_); refine goesL_ (some 61) rfl rfl Tryz.func37 (by kernel_rfl) rfl #[.agg #[.int .i64 a0_4, .int .i64 a0_5], .int .i64 (-10000), .int .i64 10000] rfl tM ?_; (with_reducible refine (b_span.calls a0_4 a0_5 (-10000) 10000 true _ A54.out).mono ?_); rintro e w62 ⟨rfl, hb⟩; refine ⟨_, rfl, ?_⟩; replace BK145 := Sd.mk (blk_below (bkA BK145.out) hb); replace HB := Sd.mk (below_step (bBl HB.out) hb); (try clear hb); (try clear hb2); (try clear hk); (try clear hi); obtain ⟨u63_0, u63_1, u63_2, u63_3, u63_4, u63_5, u63_6, o63_0, o63_1, o63_2, o63_3, o63_4, o63_5, o63_6⟩ := bc7 (w := w62) BK145.out) | (go_at_call 26; (with_reducible refine (b_within.calls a0_6 1 10000 false _ A56.out).mono ?_); rintro e w' ⟨rfl, ⟨nd, rfl⟩⟩))
            go_ret
            exact ⟨tE, bBl HB.out⟩
          ·replace c55 := Bool.eq_false_iff.mpr c55
           subst c55
           have H1 : (some 1) = some r := by rw [if_neg (show ¬ (false = true) by decide)] at H; exact H
           clear H; have H := H1; clear H1; obtain rfl := Option.some.inj H; obtain ⟨u64_0, u64_1, u64_2, u64_3, u64_4, u64_5, u64_6, o64_0, o64_1, o64_2, o64_3, o64_4, o64_5, o64_6⟩ := bc7 (w := wr) BK145.out
           go_wp2_with (first | ((with_reducible refine gate_callee (f := 37) rfl ?_); refine goesL_ (some 61) rfl rfl Tryz.func37 (by kernel_rfl) rfl #[.agg #[.int .i64 a0_4, .int .i64 a0_5], .int .i64 (-10000), .int .i64 10000] rfl tM ?_; (with_reducible refine (b_span.calls a0_4 a0_5 (-10000) 10000 false _ A54.out).mono ?_); rintro e w65 ⟨rfl, hb⟩; refine ⟨_, rfl, ?_⟩; replace BK145 := Sd.mk (blk_below (bkA BK145.out) hb); replace HB := Sd.mk (below_step (bBl HB.out) hb); (try clear hb); (try clear hb2); (try clear hk); (try clear hi)))
           go_ret
           exact ⟨tE, bBl HB.out⟩
  ·rw [if_neg c5] at H
   have c5b0 : (t147 == 0) = false := beq_eq_false_iff_ne.mpr c5
   have c5b1 : (t147 != 0) = true := bne_iff_ne.mpr c5
   obtain rfl := Option.some.inj H
   go_enter Tryz.func13, Tryz.ntmps13
   go_wp2_with (first | ((with_reducible refine gate_dst (N := 1) rfl ?_); refine box_event ?hg (N := 1) ?hd (cs := #[.slice A0_0 l0_0.length c0_0, .slice A0_1 l0_1.length c0_1, .slice A0_2 l0_2.length c0_2, .slice A0_3 l0_3.length c0_3, .int .i64 a0_4, .int .i64 a0_5, .int .i64 a0_6]) (t := 29) ?hr ?_; (case hd => rfl); (case hg => rfl); (case hr => exact tG); intro gb145 hg w66 hbox hb; have BK145 := Sd.mk (hbox); have GW145 := Sd.mk (bSz hg (bBl HB.out)); have GE145 := Sd.mk (bSz hg (bBl HB.out)); replace HB := Sd.mk (below_step (bBl HB.out) hb); clear hb hbox hg; obtain ⟨u67_0, u67_1, u67_2, u67_3, u67_4, u67_5, u67_6, o67_0, o67_1, o67_2, o67_3, o67_4, o67_5, o67_6⟩ := bc7 (w := w66) BK145.out) | ((with_reducible refine gate_callee (f := 33) rfl ?_); refine goesL_ (some 9) rfl rfl Tryz.func33 (by kernel_rfl) rfl #[.agg #[.slice A0_0 l0_0.length c0_0, .slice A0_1 l0_1.length c0_1, .slice A0_2 l0_2.length c0_2, .slice A0_3 l0_3.length c0_3, .int .i64 a0_4, .int .i64 a0_5, .int .i64 a0_6]] rfl tM ?_; (with_reducible refine (b_checkOxides.calls k _ _ l0_0 _ _ l0_1 _ _ l0_2 _ _ l0_3 a0_4 a0_5 a0_6 t146 _ (cS (Kd.C_below HR0_0.out HB.out)) HC0_0.out (cS (Kd.C_below HR0_1.out HB.out)) HC0_1.out (cS (Kd.C_below HR0_2.out HB.out)) HC0_2.out (cS (Kd.C_below HR0_3.out HB.out)) HC0_3.out A2.out).mono ?_); rintro e w68 ⟨rfl, hb⟩; refine ⟨_, rfl, ?_⟩; replace BK145 := Sd.mk (blk_below (bkA BK145.out) hb); replace HB := Sd.mk (below_step (bBl HB.out) hb); (try clear hb); (try clear hb2); (try clear hk); (try clear hi); obtain ⟨u69_0, u69_1, u69_2, u69_3, u69_4, u69_5, u69_6, o69_0, o69_1, o69_2, o69_3, o69_4, o69_5, o69_6⟩ := bc7 (w := w68) BK145.out) | ((with_reducible refine gate_callee (f := 34) rfl ?_); refine goesL_ (some 14) rfl rfl Tryz.func34 (by kernel_rfl) rfl #[.agg #[.slice A0_0 l0_0.length c0_0, .slice A0_1 l0_1.length c0_1, .slice A0_2 l0_2.length c0_2, .slice A0_3 l0_3.length c0_3, .int .i64 a0_4, .int .i64 a0_5, .int .i64 a0_6]] rfl tM ?_; (with_reducible refine (b_checkMaterials.calls k _ _ l0_0 _ _ l0_1 _ _ l0_2 _ _ l0_3 a0_4 a0_5 a0_6 t147 _ (cS (Kd.C_below HR0_0.out HB.out)) HC0_0.out (cS (Kd.C_below HR0_1.out HB.out)) HC0_1.out (cS (Kd.C_below HR0_2.out HB.out)) HC0_2.out (cS (Kd.C_below HR0_3.out HB.out)) HC0_3.out A4.out).mono ?_); rintro e w70 ⟨rfl, hb⟩; refine ⟨_, rfl, ?_⟩; replace BK145 := Sd.mk (blk_below (bkA BK145.out) hb); replace HB := Sd.mk (below_step (bBl HB.out) hb); (try clear hb); (try clear hb2); (try clear hk); (try clear hi)))
   go_ret
   exact ⟨tE, bBl HB.out⟩
 ·rw [if_neg c3] at H
  have c3b0 : (t146 == 0) = false := beq_eq_false_iff_ne.mpr c3
  have c3b1 : (t146 != 0) = true := bne_iff_ne.mpr c3
  obtain rfl := Option.some.inj H
  go_enter Tryz.func13, Tryz.ntmps13
  go_wp2_with (first | ((with_reducible refine gate_dst (N := 1) rfl ?_); refine box_event ?hg (N := 1) ?hd (cs := #[.slice A0_0 l0_0.length c0_0, .slice A0_1 l0_1.length c0_1, .slice A0_2 l0_2.length c0_2, .slice A0_3 l0_3.length c0_3, .int .i64 a0_4, .int .i64 a0_5, .int .i64 a0_6]) (t := 29) ?hr ?_; (case hd => rfl); (case hg => rfl); (case hr => exact tG); intro gb145 hg w71 hbox hb; have BK145 := Sd.mk (hbox); have GW145 := Sd.mk (bSz hg (bBl HB.out)); have GE145 := Sd.mk (bSz hg (bBl HB.out)); replace HB := Sd.mk (below_step (bBl HB.out) hb); clear hb hbox hg; obtain ⟨u72_0, u72_1, u72_2, u72_3, u72_4, u72_5, u72_6, o72_0, o72_1, o72_2, o72_3, o72_4, o72_5, o72_6⟩ := bc7 (w := w71) BK145.out) | ((with_reducible refine gate_callee (f := 33) rfl ?_); refine goesL_ (some 9) rfl rfl Tryz.func33 (by kernel_rfl) rfl #[.agg #[.slice A0_0 l0_0.length c0_0, .slice A0_1 l0_1.length c0_1, .slice A0_2 l0_2.length c0_2, .slice A0_3 l0_3.length c0_3, .int .i64 a0_4, .int .i64 a0_5, .int .i64 a0_6]] rfl tM ?_; (with_reducible refine (b_checkOxides.calls k _ _ l0_0 _ _ l0_1 _ _ l0_2 _ _ l0_3 a0_4 a0_5 a0_6 t146 _ (cS (Kd.C_below HR0_0.out HB.out)) HC0_0.out (cS (Kd.C_below HR0_1.out HB.out)) HC0_1.out (cS (Kd.C_below HR0_2.out HB.out)) HC0_2.out (cS (Kd.C_below HR0_3.out HB.out)) HC0_3.out A2.out).mono ?_); rintro e w73 ⟨rfl, hb⟩; refine ⟨_, rfl, ?_⟩; replace BK145 := Sd.mk (blk_below (bkA BK145.out) hb); replace HB := Sd.mk (below_step (bBl HB.out) hb); (try clear hb); (try clear hb2); (try clear hk); (try clear hi)))
  go_ret
  exact ⟨tE, bBl HB.out⟩
end
section
def proC (n : Nat) (x : S77) : Int := if x.f1.length = n then (if x.f1.any (outside (-10000) 10000) = true then 1 else if -10000 ≤ x.f2.f0 ∧ x.f2.f0 ≤ x.f2.f1 ∧ x.f2.f1 ≤ 10000 then 0 else 1) else 1
def proE (p : List S77) (n : Nat) : Nat → Nat → Int
  | 0, _ => 0
  | m + 1, i => if nameOk (rd_T77 p (i : Int)).f0 = true then (if ((p.take i).any fun x => x.f0.toList == (rd_T77 p (i : Int)).f0.toList) = true then 6 else (if proC n (rd_T77 p (i : Int)) = 0 then proE p n m (i + 1) else proC n (rd_T77 p (i : Int)))) else 5
def matE (mt : List S50) (n : Nat) : Nat → Nat → Int
  | 0, _ => 0
  | m + 1, i => if nameOk (rd_T50 mt (i : Int)).f0 = true then (if ((mt.take i).any fun x => x.f0.toList == (rd_T50 mt (i : Int)).f0.toList) = true then 6 else (if matC n (rd_T50 mt (i : Int)) = 0 then matE mt n m (i + 1) else matC n (rd_T50 mt (i : Int)))) else 5
section
variable (o : List ByteArray) (mt : List S50) (s : List S27) (p : List S77) (a4 a5 a6 : Int)
end
end
section
section
variable (o : List ByteArray) (mt : List S50) (s : List S27) (p : List S77) (a4 a5 a6 : Int)
def endV : Int := if -10000 ≤ a4 ∧ a4 ≤ a5 ∧ a5 ≤ 10000 then (if 1 ≤ a6 ∧ a6 ≤ 10000 then 0 else 1) else 1
def proV : Int := if p.length > 6 then 3 else if proE p o.length p.length 0 = 0 then endV a4 a5 a6 else proE p o.length p.length 0
def shaV : Int := if s.length = o.length then (if s.any badSpan = true then 1 else proV o p a4 a5 a6) else 1
def matV : Int := if mt.length > 12 then 3 else if mt.length = 0 then 1 else if matE mt o.length mt.length 0 = 0 then shaV o s p a4 a5 a6 else matE mt o.length mt.length 0
def checkV : Int := if o.length > 12 then 3 else if o.length = 0 then 1 else if oxE o o.length 0 = 0 then matV o mt s p a4 a5 a6 else oxE o o.length 0
end
theorem conE_ok (l : List S27) : ∀ (m i : Nat) (acc : Int), i + m = l.length → conE l m i acc = 0 → ∀ j : Nat, i ≤ j → j < l.length → badSpan (rd_T27 l (j : Int)) = false
  | 0, i, acc, hi, h, j, h1, h2 => by omega
  | m + 1, i, acc, hi, h, j, h1, h2 => by
    unfold conE at h
    by_cases hb : badSpan (rd_T27 l (i : Int)) = true
    · rw [if_pos hb] at h; omega
    · rw [if_neg hb] at h
      by_cases hj : j = i
      · subst hj; simpa using hb
      · exact conE_ok l m (i + 1) _ (by omega) h j (by omega) h2
structure MatOk (n : Nat) (x : S50) : Prop where
  price : 0 ≤ x.f1 ∧ x.f1 ≤ 10000
  redox : -1000 ≤ x.f2 ∧ x.f2 ≤ 1000
  least : 0 ≤ x.f3 ∧ x.f3 ≤ 10000
  most : x.f3 ≤ x.f4 ∧ x.f4 ≤ 10000
  step : 1 ≤ x.f5 ∧ x.f5 ≤ 10000
  len : x.f6.length = n
  con : ∀ j : Nat, j < n → 0 ≤ (rd_T27 x.f6 (j : Int)).f0 ∧ (rd_T27 x.f6 (j : Int)).f0 ≤ (rd_T27 x.f6 (j : Int)).f1 ∧ (rd_T27 x.f6 (j : Int)).f1 ≤ 1000
theorem matC_ok {n : Nat} {x : S50} (h : matC n x = 0) : MatOk n x := by
  unfold matC at h
  by_cases hc : (0 ≤ x.f1 ∧ x.f1 ≤ 10000) ∧ (-1000 ≤ x.f2 ∧ x.f2 ≤ 1000) ∧ (0 ≤ x.f3 ∧ x.f3 ≤ 10000) ∧ (x.f3 ≤ x.f4 ∧ x.f4 ≤ 10000) ∧ (1 ≤ x.f5 ∧ x.f5 ≤ 10000) ∧ x.f6.length = n
  · rw [if_pos hc] at h
    obtain ⟨h1, h2, h3, h4, h5, h6⟩ := hc
    exact ⟨h1, h2, h3, h4, h5, h6, fun j hj => bad_false (conE_ok x.f6 _ 0 0 (by omega) h j (by omega) (by omega))⟩
  · rw [if_neg hc] at h; omega
theorem matE_ok (mt : List S50) (n : Nat) : ∀ (m i : Nat), matE mt n m i = 0 → ∀ j : Nat, i ≤ j → j < i + m → MatOk n (rd_T50 mt (j : Int))
  | 0, i, h, j, h1, h2 => by omega
  | m + 1, i, h, j, h1, h2 => by
    unfold matE at h
    by_cases ha : nameOk (rd_T50 mt (i : Int)).f0 = true
    · rw [if_pos ha] at h
      by_cases hb : ((mt.take i).any fun x => x.f0.toList == (rd_T50 mt (i : Int)).f0.toList) = true
      · rw [if_pos hb] at h; omega
      · rw [if_neg hb] at h
        by_cases hc : matC n (rd_T50 mt (i : Int)) = 0
        · rw [if_pos hc] at h
          by_cases hj : j = i
          · subst hj; exact matC_ok hc
          · exact matE_ok mt n m (i + 1) h j (by omega) (by omega)
        · rw [if_neg hc] at h; exact absurd h hc
    · rw [if_neg ha] at h; omega
structure ProOk (n : Nat) (x : S77) : Prop where
  len : x.f1.length = n
  coef : ∀ j : Nat, j < n → -10000 ≤ rd x.f1 (j : Int) ∧ rd x.f1 (j : Int) ≤ 10000
  target : -10000 ≤ x.f2.f0 ∧ x.f2.f0 ≤ x.f2.f1 ∧ x.f2.f1 ≤ 10000
theorem proC_ok {n : Nat} {x : S77} (h : proC n x = 0) : ProOk n x := by
  unfold proC at h
  by_cases h1 : x.f1.length = n
  · rw [if_pos h1] at h
    by_cases h2 : x.f1.any (outside (-10000) 10000) = true
    · rw [if_pos h2] at h; omega
    · rw [if_neg h2] at h
      by_cases h3 : -10000 ≤ x.f2.f0 ∧ x.f2.f0 ≤ x.f2.f1 ∧ x.f2.f1 ≤ 10000
      · refine ⟨h1, fun j hj => ?_, h3⟩
        have hm : rd x.f1 (j : Int) ∈ x.f1 := by
          have hlt : j < x.f1.length := by omega
          have : rd x.f1 (j : Int) = x.f1[j] := by simp [rd, hlt]
          rw [this]; exact List.getElem_mem hlt
        have hn : outside (-10000) 10000 (rd x.f1 (j : Int)) = false := by
          cases ho : outside (-10000) 10000 (rd x.f1 (j : Int)) with
          | false => rfl
          | true => exact absurd (List.any_eq_true.mpr ⟨_, hm, ho⟩) h2
        simp [outside] at hn; omega
      · rw [if_neg h3] at h; omega
  · rw [if_neg h1] at h; omega
theorem proE_ok (p : List S77) (n : Nat) : ∀ (m i : Nat), proE p n m i = 0 → ∀ j : Nat, i ≤ j → j < i + m → ProOk n (rd_T77 p (j : Int))
  | 0, i, h, j, h1, h2 => by omega
  | m + 1, i, h, j, h1, h2 => by
    unfold proE at h
    by_cases ha : nameOk (rd_T77 p (i : Int)).f0 = true
    · rw [if_pos ha] at h
      by_cases hb : ((p.take i).any fun x => x.f0.toList == (rd_T77 p (i : Int)).f0.toList) = true
      · rw [if_pos hb] at h; omega
      · rw [if_neg hb] at h
        by_cases hc : proC n (rd_T77 p (i : Int)) = 0
        · rw [if_pos hc] at h
          by_cases hj : j = i
          · subst hj; exact proC_ok hc
          · exact proE_ok p n m (i + 1) h j (by omega) (by omega)
        · rw [if_neg hc] at h; exact absurd h hc
    · rw [if_neg ha] at h; omega
structure BatchOk (o : List ByteArray) (mt : List S50) (s : List S27) (p : List S77) (a4 a5 a6 : Int) : Prop where
  o12 : o.length ≤ 12
  o1 : o.length ≠ 0
  m12 : mt.length ≤ 12
  m1 : mt.length ≠ 0
  mats : ∀ j : Nat, j < mt.length → MatOk o.length (rd_T50 mt (j : Int))
  slen : s.length = o.length
  shares : ∀ j : Nat, j < s.length → 0 ≤ (rd_T27 s (j : Int)).f0 ∧ (rd_T27 s (j : Int)).f0 ≤ (rd_T27 s (j : Int)).f1 ∧ (rd_T27 s (j : Int)).f1 ≤ 1000
  p6 : p.length ≤ 6
  pros : ∀ j : Nat, j < p.length → ProOk o.length (rd_T77 p (j : Int))
  redox : -10000 ≤ a4 ∧ a4 ≤ a5 ∧ a5 ≤ 10000
  wanted : 1 ≤ a6 ∧ a6 ≤ 10000
theorem check_ok {o : List ByteArray} {mt : List S50} {s : List S27} {p : List S77} {a4 a5 a6 : Int} (h : checkV o mt s p a4 a5 a6 = 0) : BatchOk o mt s p a4 a5 a6 := by
  unfold checkV at h
  by_cases h1 : o.length > 12
  · rw [if_pos h1] at h; omega
  rw [if_neg h1] at h
  by_cases h2 : o.length = 0
  · rw [if_pos h2] at h; omega
  rw [if_neg h2] at h
  by_cases h3 : oxE o o.length 0 = 0
  rotate_left
  · rw [if_neg h3] at h; exact absurd h h3
  rw [if_pos h3] at h
  unfold matV at h
  by_cases h4 : mt.length > 12
  · rw [if_pos h4] at h; omega
  rw [if_neg h4] at h
  by_cases h5 : mt.length = 0
  · rw [if_pos h5] at h; omega
  rw [if_neg h5] at h
  by_cases h6 : matE mt o.length mt.length 0 = 0
  rotate_left
  · rw [if_neg h6] at h; exact absurd h h6
  rw [if_pos h6] at h
  unfold shaV at h
  by_cases h7 : s.length = o.length
  rotate_left
  · rw [if_neg h7] at h; omega
  rw [if_pos h7] at h
  by_cases h8 : s.any badSpan = true
  · rw [if_pos h8] at h; omega
  rw [if_neg h8] at h
  unfold proV at h
  by_cases h9 : p.length > 6
  · rw [if_pos h9] at h; omega
  rw [if_neg h9] at h
  by_cases h10 : proE p o.length p.length 0 = 0
  rotate_left
  · rw [if_neg h10] at h; exact absurd h h10
  rw [if_pos h10] at h
  unfold endV at h
  by_cases h11 : -10000 ≤ a4 ∧ a4 ≤ a5 ∧ a5 ≤ 10000
  rotate_left
  · rw [if_neg h11] at h; omega
  rw [if_pos h11] at h
  by_cases h12 : 1 ≤ a6 ∧ a6 ≤ 10000
  rotate_left
  · rw [if_neg h12] at h; omega
  refine ⟨by omega, h2, by omega, h5, fun j hj => matE_ok mt _ _ 0 h6 j (by omega) (by omega), h7, fun j hj => ?_, by omega, fun j hj => proE_ok p _ _ 0 h10 j (by omega) (by omega), h11, h12⟩
  have hlt : j < s.length := hj
  have hr : rd_T27 s (j : Int) = s[j] := by simp [rd_T27, hlt]
  rw [hr]
  apply bad_false
  cases hb : badSpan s[j] with
  | false => rfl
  | true => exact absurd (List.any_eq_true.mpr ⟨_, List.getElem_mem hlt, hb⟩) h8
end
section
theorem getD_lt {α : Type} (l : List α) (k : Nat) (d : α) (h : k < l.length) : l.getD k d = l[k] := by simp [List.getD, h]
theorem getD_ge {α : Type} (l : List α) (k : Nat) (d : α) (h : l.length ≤ k) : l.getD k d = d := by simp [List.getD, h]
structure MatB (m : S50) : Prop where
  lo : 0 ≤ m.f3
  le : m.f3 ≤ m.f4
  hi : m.f4 ≤ 10000
  s1 : 1 ≤ m.f5
  s2 : m.f5 ≤ 10000
def nextL : List S50 → List Int → Option (List Int)
  | m :: ms, k :: ks => match nextL ms ks with
    | some q => some (k :: q)
    | none => if wrap64 (k + m.f5) ≤ m.f4 then some (wrap64 (k + m.f5) :: ms.map (·.f3)) else none
  | _, _ => none
theorem nextL_snoc (m : S50) (k : Int) : ∀ (ms : List S50) (ks : List Int), ms.length = ks.length → nextL (ms ++ [m]) (ks ++ [k]) = if wrap64 (k + m.f5) ≤ m.f4 then some (ks ++ [wrap64 (k + m.f5)]) else (nextL ms ks).map (· ++ [m.f3])
  | [], [], _ => by simp only [List.nil_append, nextL]; split <;> rfl
  | a :: ms, b :: ks, h => by
    have ih := nextL_snoc m k ms ks (by simpa using h)
    simp only [List.cons_append, nextL, ih]
    by_cases hc : wrap64 (k + m.f5) ≤ m.f4
    · simp only [if_pos hc]
    · simp only [if_neg hc]
      cases nextL ms ks with
      | some q => rfl
      | none =>
        simp only [Option.map_none]
        split <;> simp
  | [], _ :: _, h => by simp at h
  | _ :: _, [], h => by simp at h
theorem adv_next (mt : List S50) : ∀ (i : Nat) (r : List Int), r.length = mt.length → i ≤ mt.length →
    (∀ q, nextL (mt.take i) (r.take i) = some q → adv mt i r = (true, q ++ r.drop i)) ∧ (nextL (mt.take i) (r.take i) = none → (adv mt i r).1 = false)
  | 0, r, hr, hi => ⟨fun q h => by simp [nextL] at h, fun _ => rfl⟩
  | i + 1, r, hr, hi => by
    have h1 : i < mt.length := by omega
    have h2 : i < r.length := by omega
    have e1 : mt.take (i + 1) = mt.take i ++ [mt[i]] := by rw [List.take_add_one, List.getElem?_eq_getElem h1]; rfl
    have e2 : r.take (i + 1) = r.take i ++ [r[i]] := by rw [List.take_add_one, List.getElem?_eq_getElem h2]; rfl
    have g1 : rd_T50 mt (i : Int) = mt[i] := by simp [rd_T50, h1]
    have g2 : rd r (i : Int) = r[i] := by simp [rd, h2]
    have hs := nextL_snoc mt[i] r[i] (mt.take i) (r.take i) (by simp; omega)
    rw [e1, e2, hs]
    unfold adv
    rw [g1, g2]
    by_cases hc : wrap64 (r[i] + mt[i].f5) ≤ mt[i].f4
    · rw [if_pos hc, if_pos hc]
      refine ⟨fun q h => ?_, fun h => by cases h⟩
      obtain rfl := Option.some.inj h
      rw [List.set_eq_take_append_cons_drop, if_pos h2]
      simp
    · rw [if_neg hc, if_neg hc]
      have ih := adv_next mt i (r.set i mt[i].f3) (by simpa using hr) (by omega)
      have e3 : (r.set i mt[i].f3).take i = r.take i := List.take_set_of_le (Nat.le_refl i)
      have e4 : (r.set i mt[i].f3).drop i = mt[i].f3 :: r.drop (i + 1) := by
        rw [List.set_eq_take_append_cons_drop, if_pos h2, List.drop_append_of_le_length (by simp; omega)]
        simp
      rw [e3] at ih
      refine ⟨fun q h => ?_, fun h => ih.2 (by simpa using h)⟩
      obtain ⟨q0, hq0, rfl⟩ := Option.map_eq_some_iff.1 h
      rw [ih.1 q0 hq0, e4]
      simp
def kilosF (s : Int) : Nat → Int → List Int
  | 0, _ => []
  | c + 1, k => k :: kilosF s c (k + s)
def cntM (m : S50) : Nat := ((m.f4 - m.f3) / m.f5).toNat + 1
def allR : List S50 → List (List Int)
  | [] => [[]]
  | m :: ms => (kilosF m.f5 (cntM m) m.f3).flatMap fun k => (allR ms).map (k :: ·)
def ChL {α : Type} (nx : α → Option α) (e : Option α) : List α → Prop
  | [] => True
  | [a] => nx a = e
  | a :: b :: l => nx a = some b ∧ ChL nx e (b :: l)
theorem ChL_append {α : Type} {nx : α → Option α} {e : Option α} {b : α} {l2 : List α} : ∀ (l1 : List α), ChL nx (some b) l1 → ChL nx e (b :: l2) → ChL nx e (l1 ++ b :: l2)
  | [], _, h => h
  | [a], h1, h2 => ⟨h1, h2⟩
  | a :: c :: l, h1, h2 => ⟨h1.1, ChL_append (c :: l) h1.2 h2⟩
theorem ChL_get {α : Type} {nx : α → Option α} : ∀ (l : List α), ChL nx none l → ∀ (k : Nat) (h : k < l.length), nx l[k] = l[k + 1]?
  | [a], h, 0, _ => h
  | a :: b :: l, h, 0, _ => by simpa using h.1
  | a :: b :: l, h, k + 1, hk => by
    have := ChL_get (b :: l) h.2 k (by simpa using hk)
    simpa using this
theorem ChL_map (m : S50) (ms : List S50) (k : Int) : ∀ (l : List (List Int)), ChL (nextL ms) none l → ChL (nextL (m :: ms)) (if wrap64 (k + m.f5) ≤ m.f4 then some (wrap64 (k + m.f5) :: ms.map (·.f3)) else none) (l.map (k :: ·))
  | [], _ => trivial
  | [a], h => by
    have h : nextL ms a = none := h
    show nextL (m :: ms) (k :: a) = _
    simp only [nextL, h]
  | a :: b :: l, h => by
    refine ⟨?_, ChL_map m ms k (b :: l) h.2⟩
    simp only [nextL, h.1]
theorem allR_head : ∀ (mt : List S50), ∃ tl, allR mt = mt.map (·.f3) :: tl
  | [] => ⟨[], rfl⟩
  | m :: ms => by
    obtain ⟨tl, h⟩ := allR_head ms
    unfold allR cntM
    simp only [kilosF, List.flatMap_cons, h, List.map_cons, List.cons_append]
    exact ⟨_, rfl⟩
theorem cntM_last {m : S50} (M : MatB m) : m.f3 + ((cntM m : Int) - 1) * m.f5 ≤ m.f4 ∧ m.f4 < m.f3 + (cntM m : Int) * m.f5 := by
  unfold cntM
  have h0 : 0 ≤ (m.f4 - m.f3) / m.f5 := Int.ediv_nonneg (by have := M.le; omega) (by have := M.s1; omega)
  have h1 := Int.mul_ediv_self_le (x := m.f4 - m.f3) (k := m.f5) (by have := M.s1; omega)
  have h2 := Int.lt_mul_ediv_self_add (x := m.f4 - m.f3) (k := m.f5) (by have := M.s1; omega)
  have e : ((((m.f4 - m.f3) / m.f5).toNat + 1 : Nat) : Int) = (m.f4 - m.f3) / m.f5 + 1 := by omega
  rw [e]
  generalize (m.f4 - m.f3) / m.f5 = q at *
  have e2 : (q + 1 - 1) * m.f5 = m.f5 * q := by rw [Int.add_sub_cancel, Int.mul_comm]
  have e3 : (q + 1) * m.f5 = m.f5 * q + m.f5 := by rw [Int.add_mul, Int.one_mul, Int.mul_comm]
  rw [e2, e3]
  omega
theorem ChL_block (m : S50) (ms : List S50) (M : MatB m) (hms : ChL (nextL ms) none (allR ms)) : ∀ (c : Nat) (k : Int), 0 ≤ k → k + (c : Int) * m.f5 ≤ m.f4 → m.f4 < k + ((c : Int) + 1) * m.f5 →
    ChL (nextL (m :: ms)) none ((kilosF m.f5 (c + 1) k).flatMap fun k => (allR ms).map (k :: ·))
  | 0, k, h0, h1, h2 => by
    simp only [kilosF, List.flatMap_cons, List.flatMap_nil, List.append_nil]
    have := ChL_map m ms k (allR ms) hms
    have hw : wrap64 (k + m.f5) = k + m.f5 := wrap_id (by have := M.s1; omega) (by have := M.s2; have := M.hi; omega)
    rw [hw, if_neg (by omega)] at this
    exact this
  | c + 1, k, h0, h1, h2 => by
    have hp : 0 ≤ (c : Int) * m.f5 := Int.mul_nonneg (by omega) (by have := M.s1; omega)
    have e1 : ((c + 1 : Nat) : Int) * m.f5 = (c : Int) * m.f5 + m.f5 := by push_cast; rw [Int.add_mul, Int.one_mul]
    have e2 : (((c + 1 : Nat) : Int) + 1) * m.f5 = ((c : Int) + 1) * m.f5 + m.f5 := by push_cast; rw [Int.add_mul ((c : Int) + 1), Int.one_mul]
    have ih := ChL_block m ms M hms c (k + m.f5) (by have := M.s1; omega) (by omega) (by omega)
    have := ChL_map m ms k (allR ms) hms
    have hw : wrap64 (k + m.f5) = k + m.f5 := wrap_id (by have := M.s1; omega) (by have := M.s2; have := M.hi; omega)
    rw [hw, if_pos (by omega)] at this
    rw [kilosF, List.flatMap_cons]
    obtain ⟨tl, ht⟩ := allR_head ms
    have hh : ∃ tl2, ((kilosF m.f5 (c + 1) (k + m.f5)).flatMap fun k => (allR ms).map (k :: ·)) = ((k + m.f5) :: ms.map (·.f3)) :: tl2 := by
      rw [kilosF, List.flatMap_cons, ht]
      exact ⟨_, rfl⟩
    obtain ⟨tl2, h3⟩ := hh
    rw [h3] at ih ⊢
    exact ChL_append _ this ih
theorem ChL_all : ∀ (mt : List S50), (∀ m ∈ mt, MatB m) → ChL (nextL mt) none (allR mt)
  | [], _ => rfl
  | m :: ms, H => by
    have M := H m (List.mem_cons_self)
    have ih := ChL_all ms (fun x hx => H x (List.mem_cons_of_mem _ hx))
    have hl := cntM_last M
    have e : ((cntM m : Nat) : Int) - 1 = (((m.f4 - m.f3) / m.f5).toNat : Int) := by unfold cntM; push_cast; omega
    rw [e] at hl
    have hl2 := hl.2
    rw [show ((cntM m : Nat) : Int) = (((m.f4 - m.f3) / m.f5).toNat : Int) + 1 from by unfold cntM; push_cast; rfl] at hl2
    exact ChL_block m ms M ih _ _ M.lo hl.1 hl2
theorem allR_len : ∀ (mt : List S50) (r : List Int), r ∈ allR mt → r.length = mt.length
  | [], r, h => by simp [allR] at h; rw [h]; rfl
  | m :: ms, r, h => by
    simp only [allR, List.mem_flatMap, List.mem_map] at h
    obtain ⟨k, _, q, hq, rfl⟩ := h
    simp [allR_len ms q hq]
theorem leasts_map (mt : List S50) : leasts mt mt.length = mt.map (·.f3) := by
  apply List.ext_getElem
  · simp [leasts]
  · intro i h1 h2
    have h3 : i < mt.length := by simpa [leasts] using h1
    simp [leasts, rd_T50, h3]
def rsAt (mt : List S50) (k : Nat) : List Int := (allR mt).getD k (leasts mt mt.length)
theorem rsAt_len (mt : List S50) (k : Nat) : (rsAt mt k).length = mt.length := by
  unfold rsAt
  by_cases h : k < (allR mt).length
  · rw [getD_lt _ _ _ h]; exact allR_len mt _ (List.getElem_mem h)
  · rw [getD_ge _ _ _ (by omega)]; exact leasts_len mt _
theorem rsAt_zero (mt : List S50) : rsAt mt 0 = leasts mt mt.length := by
  obtain ⟨tl, h⟩ := allR_head mt
  unfold rsAt
  rw [h, leasts_map]
  rfl
theorem allR_pos (mt : List S50) : 0 < (allR mt).length := by
  obtain ⟨tl, h⟩ := allR_head mt
  rw [h]; simp
theorem rsAt_next (mt : List S50) (H : ∀ m ∈ mt, MatB m) (k : Nat) (hk : k < (allR mt).length) :
    adv mt mt.length (rsAt mt k) = if k + 1 < (allR mt).length then (true, rsAt mt (k + 1)) else (false, (adv mt mt.length (rsAt mt k)).2) := by
  have h := ChL_get _ (ChL_all mt H) k hk
  have ha := adv_next mt mt.length (rsAt mt k) (rsAt_len mt k) (Nat.le_refl _)
  rw [List.take_length, List.take_of_length_le (Nat.le_of_eq (rsAt_len mt k)), List.drop_of_length_le (Nat.le_of_eq (rsAt_len mt k))] at ha
  have e : rsAt mt k = (allR mt)[k] := by unfold rsAt; rw [getD_lt _ _ _ hk]
  by_cases h2 : k + 1 < (allR mt).length
  · rw [if_pos h2]
    rw [List.getElem?_eq_getElem h2, ← e] at h
    rw [ha.1 _ h, List.append_nil]
    unfold rsAt
    rw [getD_lt _ _ _ h2]
  · rw [if_neg h2]
    rw [List.getElem?_eq_none (by omega), ← e] at h
    exact Prod.ext (ha.2 h) rfl
theorem rs_map (mt : List S50) : (List.range (allR mt).length).map (rsAt mt) = allR mt := by
  apply List.ext_getElem
  · simp
  · intro i h1 h2
    simp [rsAt, h2]
end
section
open Go.RowKit Go.Proofs.YtnmdojgfedddbaaGreatDoorW.PrintWords Go.Proofs.YtnmdojgfedddbaaGreatDoorW.PrintLast Go.Proofs.YtnmdojgfedddbaaGreatDoorW.PrintMore
open Go.Sort (putRow Holds)
attribute [local go_sem] max2_int min2_int max_two min_two
theorem below_putRow {B : Nat} {w W : World} (h : Below B w W) {blk off : Nat} (hb : B ≤ blk) (d : Array Int) : Below B w (putRow (Value.int .i64) W blk off d) := by
  refine ⟨h.os, h.tape, h.output, by rw [Go.Sort.size_putRow]; exact h.size, fun i hi => ?_⟩
  rw [← h.block i hi]
  unfold Go.Sort.putRow Go.Sort.mapBlock
  simp only [Array.getElem?_modify]
  rw [if_neg (by omega)]
theorem blk_putRow {W : World} {g : Nat} {o : Obj} (h : W.heap[g]? = some o) {blk off : Nat} (hb : g ≠ blk) (d : Array Int) : (putRow (Value.int .i64) W blk off d).heap[g]? = some o := by
  rw [← h]
  unfold Go.Sort.putRow Go.Sort.mapBlock
  simp only [Array.getElem?_modify]
  rw [if_neg (by omega)]
def CoefQ (g : Nat) (lb : Array Value) (cf : Int → Int) (N : Int) (w : World) : Prop :=
  ∀ W, Below w.heap.size w W → ∀ x, 0 ≤ x → x < N → Calls Tryz.prog g (#[.int .i64 x] ++ lb) W fun e w' => e = .returned (.int .i64 (cf x)) ∧ ∃ q, w' = W.drewN q
theorem meanCmp_calls (B g : Nat) (lb : Array Value) (cf : Int → Int) (N : Int) (w W : World) (eg : ∀ args w, (callFunc g args).run Tryz.prog w = .ok (.enter g args) w)
    (hq : CoefQ g lb cf N w) (hb : Below w.heap.size w W) (hB : W.cell? ⟨B, 0, none⟩ = some (.func (.func g) #[] lb)) (x y : Int) (hx0 : 0 ≤ x) (hx1 : x < N) (hy0 : 0 ≤ y) (hy1 : y < N)
    (hx2 : -100000 ≤ cf x) (hx3 : cf x ≤ 100000) (hy2 : -100000 ≤ cf y) (hy3 : cf y ≤ 100000) :
    Calls Tryz.prog 130 #[.int .i64 x, .int .i64 y, .pointer (some ⟨B, 0, none⟩)] W fun e w' => e = .returned (.int .i64 (cf x - cf y)) ∧ ∃ q, w' = W.drewN q := by
  have h1 : ∀ n, Calls Tryz.prog g (#[.int .i64 x] ++ lb) (W.drewN n) fun e w' => e = .returned (.int .i64 (cf x)) ∧ ∃ q, w' = (W.drewN n).drewN q := fun n => hq _ (pw_below_drewN hb n) x hx0 hx1
  have h2 : ∀ n, Calls Tryz.prog g (#[.int .i64 y] ++ lb) (W.drewN n) fun e w' => e = .returned (.int .i64 (cf y)) ∧ ∃ q, w' = (W.drewN n).drewN q := fun n => hq _ (pw_below_drewN hb n) y hy0 hy1
  have H1 : Sd _ := ⟨h1⟩
  have H2 : Sd _ := ⟨h2⟩
  clear h1 h2 hq hb
  generalize cf x = cx at *
  generalize cf y = cy at *
  go_enter Tryz.func130, Tryz.ntmps130
  go_wp2_with fail
  go_quiet (first | (go_at_fn g; exact Calls.quiet_of (H1.out _)) | (go_at_fn g; exact Calls.quiet_of (H2.out _)))
  go_wp2
  go_ret
  exact ⟨rfl, _, rfl⟩
end
section
open Go.RowKit Go.Proofs.YtnmdojgfedddbaaGreatDoorW.PrintWords Go.Proofs.YtnmdojgfedddbaaGreatDoorW.PrintLast Go.Proofs.YtnmdojgfedddbaaGreatDoorW.PrintMore
open Go.Sort (putRow Holds)
attribute [local go_sem] max2_int min2_int max_two min_two
theorem swo_cf (cf : Int → Int) : Go.Sort.SWO (ltC fun a b => cf a - cf b) where
  irrefl x := by simp [ltC]
  trans x y z h1 h2 := by simp only [ltC, decide_eq_true_eq] at *; omega
  ntrans x y z h1 h2 := by simp only [ltC, decide_eq_false_iff_not] at *; omega
def iotaA (n : Nat) : Array Int := Array.ofFn fun j : Fin n => (j.val : Int)
theorem iotaA_size (n : Nat) : (iotaA n).size = n := by simp [iotaA]
theorem order_facts (cf : Int → Int) (n : Nat) : Go.Sort.PermIn 0 n (iotaA n) (orderOf cf n) ∧ Go.Sort.SortedIn (ltC fun a b => cf a - cf b) 0 n (orderOf cf n) := by
  have h := Go.Sort.insertionSort_holds (lt := ltC fun a b => cf a - cf b) (swo_cf cf) (iotaA n) 0 n (Nat.zero_le _) (by rw [iotaA_size]; exact Nat.le_refl _)
  exact h
theorem order_size (cf : Int → Int) (n : Nat) : (orderOf cf n).size = n := by rw [(order_facts cf n).1.1, iotaA_size]
theorem order_perm (cf : Int → Int) (n : Nat) : (orderOf cf n).toList.Perm (iotaA n).toList := by
  have h := (order_facts cf n).1.2.2
  have e1 : (orderOf cf n).extract 0 n = orderOf cf n := by
    have := Array.extract_size (xs := orderOf cf n); rwa [order_size] at this
  have e2 : (iotaA n).extract 0 n = iotaA n := by
    have := Array.extract_size (xs := iotaA n); rwa [iotaA_size] at this
  rwa [e1, e2] at h
theorem order_in (cf : Int → Int) (n : Nat) : AllIn n (orderOf cf n) := by
  intro j hj
  have hm : (orderOf cf n)[j]! ∈ (orderOf cf n).toList := by
    rw [getElem!_pos _ j hj]
    exact Array.getElem_mem_toList hj
  have hm2 := (order_perm cf n).mem_iff.1 hm
  generalize (orderOf cf n)[j]! = x at hm2
  simp only [iotaA, Array.toList_ofFn, List.mem_ofFn] at hm2
  obtain ⟨i, rfl⟩ := hm2
  have := i.isLt
  omega
def fillTo (n k : Nat) : Array Int := Array.ofFn fun j : Fin n => if j.val < k then (j.val : Int) else 0
theorem fillTo_size (n k : Nat) : (fillTo n k).size = n := by simp [fillTo]
theorem fillTo_all (n : Nat) : fillTo n n = iotaA n := by
  unfold fillTo iotaA
  congr 1
  funext j
  rw [if_pos j.isLt]
theorem fillTo_get (n k i : Nat) (h : i < (fillTo n k).size) : (fillTo n k)[i] = if i < k then (i : Int) else 0 := by simp [fillTo]
theorem fillTo_step (n k : Nat) (hk : k < n) : (fillTo n k).setIfInBounds k (k : Int) = fillTo n (k + 1) := by
  apply Array.ext
  · rw [Array.size_setIfInBounds, fillTo_size, fillTo_size]
  · intro i h1 h2
    have h3 : i < (fillTo n k).size := by rwa [Array.size_setIfInBounds] at h1
    rw [Array.getElem_setIfInBounds h3, fillTo_get _ _ _ h2, fillTo_get _ _ _ h3]
    by_cases h : k = i
    · rw [if_pos h, if_pos (by omega), h]
    · rw [if_neg h]
      by_cases h4 : i < k
      · rw [if_pos h4, if_pos (by omega)]
      · rw [if_neg h4, if_neg (by omega)]
structure MeanW (w0 W : World) (B9 B10 : Nat) (a b c d : Int) : Prop where
  below : Below w0.heap.size w0 W
  b9 : W.heap[B9]? = some (.cells #[.int .i64 a, .int .i64 b] 163 (0, 0))
  b10 : W.heap[B10]? = some (.cells #[.int .i64 c, .int .i64 d] 163 (0, 0))
theorem MeanW.drewN {w0 W : World} {B9 B10 : Nat} {a b c d : Int} (h : MeanW w0 W B9 B10 a b c d) (n : Nat) : MeanW w0 (W.drewN n) B9 B10 a b c d := ⟨pw_below_drewN h.below n, h.b9, h.b10⟩
theorem MeanW.put9 {w0 W : World} {B9 B10 : Nat} {a b c d : Int} (h : MeanW w0 W B9 B10 a b c d) (h9 : w0.heap.size ≤ B9) (hne : B10 ≠ B9) (a' b' : Int) :
    MeanW w0 ((W.setCell ⟨B9, 0, none⟩ (.int .i64 a')).setCell ⟨B9, 1, none⟩ (.int .i64 b')) B9 B10 a' b' c d :=
  ⟨below_set (below_set h.below h9) h9, blk_put (blk_put h.b9 0 _ rfl) 1 _ rfl, blk_far (p := ⟨B9, 1, none⟩) (blk_far (p := ⟨B9, 0, none⟩) h.b10 hne _) hne _⟩
theorem MeanW.put10 {w0 W : World} {B9 B10 : Nat} {a b c d : Int} (h : MeanW w0 W B9 B10 a b c d) (h9 : w0.heap.size ≤ B10) (hne : B9 ≠ B10) (c' d' : Int) :
    MeanW w0 ((W.setCell ⟨B10, 0, none⟩ (.int .i64 c')).setCell ⟨B10, 1, none⟩ (.int .i64 d')) B9 B10 a b c' d' :=
  ⟨below_set (below_set h.below h9) h9, blk_far (p := ⟨B10, 1, none⟩) (blk_far (p := ⟨B10, 0, none⟩) h.b9 hne _) hne _, blk_put (blk_put h.b10 0 _ rfl) 1 _ rfl⟩
theorem mean_ranges {cf : Int → Int} {l : List S27} (H : MeanOk cf l) (D : Array Int) (hD : AllIn l.length D) (hs : D.size = l.length) (cut j : Nat) (hj : j < l.length) :
    (0 ≤ wX l D cut j ∧ wX l D cut j ≤ 1000000000) ∧ (0 ≤ wY l D cut j ∧ wY l D cut j ≤ 1000000000) ∧
    (-100000000000000 ≤ cf D[j]! * wX l D cut j ∧ cf D[j]! * wX l D cut j ≤ 100000000000000) ∧ (-100000000000000 ≤ cf D[j]! * wY l D cut j ∧ cf D[j]! * wY l D cut j ≤ 100000000000000) := by
  have hk := hD j (by omega)
  have a1 := H.lo _ hk.1 hk.2
  have a2 := H.le _ hk.1 hk.2
  have a3 := H.hi _ hk.1 hk.2
  have a4 := H.c1 _ hk.1 hk.2
  have a5 := H.c2 _ hk.1 hk.2
  have hX : 0 ≤ wX l D cut j ∧ wX l D cut j ≤ 1000000000 := by unfold wX; split <;> omega
  have hY : 0 ≤ wY l D cut j ∧ wY l D cut j ≤ 1000000000 := by unfold wY; split <;> omega
  have mulb : ∀ c x : Int, -100000 ≤ c → c ≤ 100000 → 0 ≤ x → x ≤ 1000000000 → -100000000000000 ≤ c * x ∧ c * x ≤ 100000000000000 := by
    intro c x h1 h2 h3 h4
    have e1 := Int.mul_le_mul_of_nonneg_right h1 h3
    have e2 := Int.mul_le_mul_of_nonneg_right h2 h3
    omega
  exact ⟨hX, hY, mulb _ _ a4 a5 hX.1 hX.2, mulb _ _ a4 a5 hY.1 hY.2⟩
structure OutW (w : World) (B3 B4 B5 Bo g : Nat) (lb : Array Value) (D : Array Int) (W : World) (x y : Int) : Prop where
  below : Below w.heap.size w W
  fn : W.heap[B3]? = some (.cells #[.func (.func g) #[] lb] 111 (0, 0))
  res : W.heap[B4]? = some (.cells #[.int .i64 0, .int .i64 0] 27 (0, 0))
  row : ∀ j, j < D.size → W.cell? ⟨B5, j, none⟩ = some (.int .i64 D[j]!)
  out : W.heap[Bo]? = some (.cells #[.int .i64 x, .int .i64 y] 27 (0, 0))
theorem OutW.later {w : World} {B3 B4 B5 Bo g : Nat} {lb : Array Value} {D : Array Int} {W W' : World} {x y : Int} (h : OutW w B3 B4 B5 Bo g lb D W x y) (hb : Below W.heap.size W W') : OutW w B3 B4 B5 Bo g lb D W' x y :=
  ⟨below_trans' h.below hb, blk_below h.fn hb, blk_below h.res hb, fun j hj => pw_cell_below hb (h.row j hj), blk_below h.out hb⟩
theorem OutW.put {w : World} {B3 B4 B5 Bo g : Nat} {lb : Array Value} {D : Array Int} {W : World} {x y : Int} (h : OutW w B3 B4 B5 Bo g lb D W x y) (h0 : w.heap.size ≤ Bo) (h3 : B3 ≠ Bo) (h4 : B4 ≠ Bo) (h5 : B5 ≠ Bo) (x' y' : Int) :
    OutW w B3 B4 B5 Bo g lb D ((W.setCell ⟨Bo, 0, none⟩ (.int .i64 x')).setCell ⟨Bo, 1, none⟩ (.int .i64 y')) x' y' :=
  ⟨below_set (below_set h.below h0) h0, blk_far (p := ⟨Bo, 1, none⟩) (blk_far (p := ⟨Bo, 0, none⟩) h.fn h3 _) h3 _, blk_far (p := ⟨Bo, 1, none⟩) (blk_far (p := ⟨Bo, 0, none⟩) h.res h4 _) h4 _,
   fun j hj => (World.cell?_setCell_other _ _ _ _ (by simp only [ne_eq, Addr.mk.injEq]; omega)).trans ((World.cell?_setCell_other _ _ _ _ (by simp only [ne_eq, Addr.mk.injEq]; omega)).trans (h.row j hj)), blk_put (blk_put h.out 0 _ rfl) 1 _ rfl⟩
theorem OutW.drewN {w : World} {B3 B4 B5 Bo g : Nat} {lb : Array Value} {D : Array Int} {W : World} {x y : Int} (h : OutW w B3 B4 B5 Bo g lb D W x y) (n : Nat) : OutW w B3 B4 B5 Bo g lb D (W.drewN n) x y :=
  ⟨pw_below_drewN h.below n, h.fn, h.res, h.row, h.out⟩
theorem mean_sums {cf : Int → Int} {l : List S27} (H : MeanOk cf l) (D : Array Int) (hD : AllIn l.length D) (hs : D.size = l.length) (cut k : Nat) (hk : k ≤ l.length) :
    (-1200000000000000 ≤ lowN cf l D cut k ∧ lowN cf l D cut k ≤ 1200000000000000) ∧ (0 ≤ lowD l D cut k ∧ lowD l D cut k ≤ 12000000000) ∧
    (-1200000000000000 ≤ highN cf l D cut k ∧ highN cf l D cut k ≤ 1200000000000000) ∧ (0 ≤ highD l D cut k ∧ highD l D cut k ≤ 12000000000) := by
  have h12 := H.n12
  have b1 := sumTo_bound (f := fun j => cf D[j]! * wX l D cut j) (M := 100000000000000) (n := l.length) (fun j hj => (mean_ranges H D hD hs cut j hj).2.2.1) k hk
  have b2 := sumTo_bound (f := wX l D cut) (M := 1000000000) (n := l.length) (fun j hj => by have := (mean_ranges H D hD hs cut j hj).1; omega) k hk
  have b3 := sumTo_bound (f := fun j => cf D[j]! * wY l D cut j) (M := 100000000000000) (n := l.length) (fun j hj => (mean_ranges H D hD hs cut j hj).2.2.2) k hk
  have b4 := sumTo_bound (f := wY l D cut) (M := 1000000000) (n := l.length) (fun j hj => by have := (mean_ranges H D hD hs cut j hj).2.1; omega) k hk
  have p2 := sumTo_pos (f := wX l D cut) (n := l.length) (fun j hj => (mean_ranges H D hD hs cut j hj).1.1) k hk
  have p4 := sumTo_pos (f := wY l D cut) (n := l.length) (fun j hj => (mean_ranges H D hD hs cut j hj).2.1.1) k hk
  unfold lowN lowD highN highD
  omega
theorem wrap_two {a m s : Int} (h : s = a + m) (h1 : -1200000000000000 ≤ a) (h2 : a ≤ 1200000000000000) (h3 : -100000000000000 ≤ m) (h4 : m ≤ 100000000000000) : IntKind.i64.wrap (a + IntKind.i64.wrap m) = s := by
  simp only [IntKind.wrap_i64]; omega
theorem wrap_one {a m s : Int} (h : s = a + m) (h1 : 0 ≤ a) (h2 : a ≤ 12000000000) (h3 : 0 ≤ m) (h4 : m ≤ 1000000000) : IntKind.i64.wrap (a + m) = s := by
  simp only [IntKind.wrap_i64]; omega
theorem sumTo_lsum (f : Int → Int) (D : Array Int) : ∀ k, k ≤ D.size → sumTo (fun j => f D[j]!) k = MeanMath.lsum f (D.toList.take k) := by
  intro k
  induction k with
  | zero => intro _; simp [sumTo]
  | succ k ih =>
    intro hk
    have hk' : k < D.toList.length := by rw [Array.length_toList]; omega
    rw [List.take_succ_eq_append_getElem hk', MeanMath.lsum_append]
    simp only [sumTo, MeanMath.lsum_cons, MeanMath.lsum_nil]
    rw [ih (by omega), getElem!_pos _ k (by omega)]
    simp
theorem lsum_iota (f : Int → Int) (l : List S27) (h : ∀ k : Nat, k < l.length → f k = (rd_T27 l k).f0) : MeanMath.lsum f (iotaA l.length).toList = MeanMath.lsum S27.f0 l := by
  have e : (iotaA l.length).toList = (List.range l.length).map (fun n : Nat => (n : Int)) := by
    apply List.ext_getElem
    · simp [iotaA]
    · intro i h1 h2; simp [iotaA]
  rw [e]
  have : ∀ (m : List S27) (pre : List S27), pre ++ m = l → MeanMath.lsum f ((List.range' pre.length m.length).map (fun n : Nat => (n : Int))) = MeanMath.lsum S27.f0 m := by
    intro m
    induction m with
    | nil => intro pre _; simp
    | cons x m ih =>
      intro pre hp
      have h1 := ih (pre ++ [x]) (by simpa using hp)
      simp only [List.length_append, List.length_singleton] at h1
      simp only [List.length_cons, List.range'_succ, List.map_cons, MeanMath.lsum_cons, h1]
      rw [h pre.length (by rw [← hp]; simp)]
      congr 1
      simp [rd_T27, ← hp]
  have h2 := this l [] rfl
  simpa [List.range_eq_range'] using h2
theorem mean_pos {cf : Int → Int} {l : List S27} (H : MeanOk cf l) (D : Array Int) (hD : AllIn l.length D) (hs : D.size = l.length) (hp : D.toList.Perm (iotaA l.length).toList) (cut : Nat) :
    0 < lowD l D cut l.length ∧ 0 < highD l D cut l.length := by
  have base : sumTo (fun j => (rd_T27 l D[j]!).f0) l.length = MeanMath.lsum S27.f0 l := by
    have := sumTo_lsum (fun k => (rd_T27 l k).f0) D l.length (by omega)
    rw [this, List.take_of_length_le (by simp; omega), MeanMath.lsum_perm _ hp]
    exact lsum_iota _ l (fun k _ => rfl)
  have mono : ∀ f : Nat → Int, (∀ j, j < l.length → (rd_T27 l D[j]!).f0 ≤ f j) → ∀ k, k ≤ l.length → sumTo (fun j => (rd_T27 l D[j]!).f0) k ≤ sumTo f k := by
    intro f hf k
    induction k with
    | zero => intro _; simp [sumTo]
    | succ k ih => intro hk; have := ih (by omega); have := hf k (by omega); simp only [sumTo]; omega
  have hpos := H.pos
  have h1 := mono (wX l D cut) (fun j hj => by
    have hk := hD j (by omega)
    have := H.le _ hk.1 hk.2
    unfold wX; split <;> omega) l.length (Nat.le_refl _)
  have h2 := mono (wY l D cut) (fun j hj => by
    have hk := hD j (by omega)
    have := H.le _ hk.1 hk.2
    unfold wY; split <;> omega) l.length (Nat.le_refl _)
  unfold lowD highD
  omega
end
section
def b_checkRecipe.f (l0_0 : List ByteArray) (l0_1 : List (S50)) (l0_2 : List (S27)) (l0_3 : List (S77)) (a0_4 : Int) (a0_5 : Int) (a0_6 : Int) (l1 : List Int) : Option (Int) := if (l1.length : Int) = (l0_1.length : Int) then ((x_kilos.f l1).bind fun t157 => (if t157 = true then (some 1) else (some 0))) else (some 1)
theorem b_checkRecipe.calls (A0_0 : Option Addr) (c0_0 : Nat) (l0_0 : List ByteArray) (A0_1 : Option Addr) (c0_1 : Nat) (l0_1 : List (S50)) (A0_2 : Option Addr) (c0_2 : Nat) (l0_2 : List (S27)) (A0_3 : Option Addr) (c0_3 : Nat) (l0_3 : List (S77)) (a0_4 : Int) (a0_5 : Int) (a0_6 : Int) (A1 : Option Addr) (c1 : Nat) (l1 : List Int) (r : Int) (w : World) (hr0_0 : Kd.C Kd.string w A0_0 l0_0.length l0_0) (hc0_0 : l0_0.length ≤ c0_0) (hr0_1 : Kd.C k50 w A0_1 l0_1.length l0_1) (hc0_1 : l0_1.length ≤ c0_1) (hr0_2 : Kd.C k27 w A0_2 l0_2.length l0_2) (hc0_2 : l0_2.length ≤ c0_2) (hr0_3 : Kd.C k77 w A0_3 l0_3.length l0_3) (hc0_3 : l0_3.length ≤ c0_3) (hr1 : Kd.C (Kd.int .i64) w A1 l1.length l1) (hc1 : l1.length ≤ c1) (h : b_checkRecipe.f l0_0 l0_1 l0_2 l0_3 a0_4 a0_5 a0_6 l1 = some r) :
    Calls Tryz.prog 57 #[.agg #[.slice A0_0 l0_0.length c0_0, .slice A0_1 l0_1.length c0_1, .slice A0_2 l0_2.length c0_2, .slice A0_3 l0_3.length c0_3, .int .i64 a0_4, .int .i64 a0_5, .int .i64 a0_6], .slice A1 l1.length c1] w fun e w' => e = .returned (.int .i64 r) ∧ Below w.heap.size w w' := by
  have hu29 := Tryz.underlying29
  have HR0_0 := Sd.mk hr0_0
  have HC0_0 := Sd.mk hc0_0
  clear hr0_0 hc0_0
  have HR0_1 := Sd.mk hr0_1
  have HC0_1 := Sd.mk hc0_1
  clear hr0_1 hc0_1
  have HR0_2 := Sd.mk hr0_2
  have HC0_2 := Sd.mk hc0_2
  clear hr0_2 hc0_2
  have HR0_3 := Sd.mk hr0_3
  have HC0_3 := Sd.mk hc0_3
  clear hr0_3 hc0_3
  have HR1 := Sd.mk hr1
  have HC1 := Sd.mk hc1
  clear hr1 hc1
  have HB := Sd.mk (Below.refl w.heap.size w)
  have H : (if (l1.length : Int) = (l0_1.length : Int) then ((x_kilos.f l1).bind fun t157 => (if t157 = true then (some 1) else (some 0))) else (some 1)) = some r := h
  clear h
  by_cases c3 : (l1.length : Int) = (l0_1.length : Int)
  · rw [if_pos c3] at H
    have c3b0 : ((l1.length : Int) == (l0_1.length : Int)) = true := beq_iff_eq.mpr c3
    have c3b1 : ((l1.length : Int) != (l0_1.length : Int)) = false := bne_eq_false_iff_eq.mpr c3
    have c3b2 : (l1.length == l0_1.length) = true := by first | simpa using c3 | (simp at c3 ⊢; omega)
    clear c3
    replace H := Option.bind_eq_some_iff.mp H
    obtain ⟨t157, A40, H⟩ := H
    replace H : (if t157 = true then (some 1) else (some 0)) = some r := H
    have A4 := Sd.mk A40
    clear A40
    by_cases c5 : t157 = true
    · subst c5
      have H1 : (some 1) = some r := by rw [if_pos rfl] at H; exact H
      clear H
      have H := H1
      clear H1
      obtain rfl := Option.some.inj H
      go_enter Tryz.func57, Tryz.ntmps57
      go_wp2_with (first | ((with_reducible refine gate_dst (N := 2) rfl ?_); refine box_event ?hg (N := 2) ?hd (cs := #[.slice A0_0 l0_0.length c0_0, .slice A0_1 l0_1.length c0_1, .slice A0_2 l0_2.length c0_2, .slice A0_3 l0_3.length c0_3, .int .i64 a0_4, .int .i64 a0_5, .int .i64 a0_6]) (t := 29) ?hr ?_; (case hd => rfl); (case hg => rfl); (case hr => first | (go_simp; done) | (go_simp; rfl)); intro gb156 hg w6 hbox hb; have n0_ := Sd.mk (below_step (by repeat (first | (with_reducible first | exact HB.out | apply below_alloc | apply pw_below_drewN | apply below_drew1) | exact HB.out)) hb); have n1_ := Sd.mk (hbox); have n2_ := Sd.mk ((by rw [hg]; exact (below_size (by repeat (first | (with_reducible first | exact HB.out | apply below_alloc | apply pw_below_drewN | apply below_drew1) | exact HB.out))) : w.heap.size ≤ gb156)); have n3_ := Sd.mk ((by rw [hg]; exact (below_size (by repeat (first | (with_reducible first | exact HB.out | apply below_alloc | apply pw_below_drewN | apply below_drew1) | exact HB.out))) : w.heap.size ≤ gb156)); clear HB; have HB := n0_; have BK156 := n1_; have GW156 := n2_; have GE156 := n3_; clear n0_ n1_ n2_ n3_; clear hb hbox hg; have hcz7_0 : w6.cell? ⟨gb156, 0, none⟩ = some (.slice A0_0 l0_0.length c0_0) := (blk_cell BK156.out 0).trans rfl; have hcz7_1 : w6.cell? ⟨gb156, 1, none⟩ = some (.slice A0_1 l0_1.length c0_1) := (blk_cell BK156.out 1).trans rfl; have hcz7_2 : w6.cell? ⟨gb156, 2, none⟩ = some (.slice A0_2 l0_2.length c0_2) := (blk_cell BK156.out 2).trans rfl; have hcz7_3 : w6.cell? ⟨gb156, 3, none⟩ = some (.slice A0_3 l0_3.length c0_3) := (blk_cell BK156.out 3).trans rfl; have hcz7_4 : w6.cell? ⟨gb156, 4, none⟩ = some (.int .i64 a0_4) := (blk_cell BK156.out 4).trans rfl; have hcz7_5 : w6.cell? ⟨gb156, 5, none⟩ = some (.int .i64 a0_5) := (blk_cell BK156.out 5).trans rfl; have hcz7_6 : w6.cell? ⟨gb156, 6, none⟩ = some (.int .i64 a0_6) := (blk_cell BK156.out 6).trans rfl; have hfz7_0 := blk_frozen BK156.out 0; have hfz7_1 := blk_frozen BK156.out 1; have hfz7_2 := blk_frozen BK156.out 2; have hfz7_3 := blk_frozen BK156.out 3; have hfz7_4 := blk_frozen BK156.out 4; have hfz7_5 := blk_frozen BK156.out 5; have hfz7_6 := blk_frozen BK156.out 6) | (go_at_call 27; (with_reducible refine (x_kilos.calls _ _ l1 true _ ?side1 ?side2 A4.out).mono ?_); (case side1 => repeat (first | exact (Kd.C_below HR1.out HB.out) | (with_reducible refine Kd.C_alloc ?_ _) | (with_reducible refine Kd.C_drewN ?_ _) | (with_reducible refine Kd.C_drew ?_))); (case side2 => exact HC1.out); rintro e w8 ⟨rfl, hb⟩; have n0_ := Sd.mk (blk_below (g := gb156) (o := .cells #[.slice A0_0 l0_0.length c0_0, .slice A0_1 l0_1.length c0_1, .slice A0_2 l0_2.length c0_2, .slice A0_3 l0_3.length c0_3, .int .i64 a0_4, .int .i64 a0_5, .int .i64 a0_6] 29 (0, 0)) (by (with_reducible repeat (first | refine blk_drewN ?_ _ | refine blk_drew ?_ | refine blk_alloc ?_ _)); exact BK156.out) hb); have n1_ := Sd.mk (below_step (by repeat (first | (with_reducible first | exact HB.out | apply below_alloc | apply pw_below_drewN | apply below_drew1 | refine below_set ?_ GE156.out) | exact HB.out)) hb); clear BK156; clear HB; have BK156 := n0_; have HB := n1_; clear n0_ n1_; (try clear hb); (try clear hb2); (try clear hk); (try clear hi)))
      go_ret
      exact ⟨by first | rfl | (simp [errW_none, errW_some] <;> rfl) | (simp [*, errW_none, errW_some] <;> rfl), by repeat (first | (with_reducible first | exact HB.out | apply below_alloc | apply pw_below_drewN | apply below_drew1 | refine below_set ?_ GE156.out) | exact HB.out)⟩
    · replace c5 := Bool.eq_false_iff.mpr c5
      subst c5
      have H1 : (some 0) = some r := by rw [if_neg (show ¬ (false = true) by decide)] at H; exact H
      clear H
      have H := H1
      clear H1
      obtain rfl := Option.some.inj H
      go_enter Tryz.func57, Tryz.ntmps57
      go_wp2_with (first | ((with_reducible refine gate_dst (N := 2) rfl ?_); refine box_event ?hg (N := 2) ?hd (cs := #[.slice A0_0 l0_0.length c0_0, .slice A0_1 l0_1.length c0_1, .slice A0_2 l0_2.length c0_2, .slice A0_3 l0_3.length c0_3, .int .i64 a0_4, .int .i64 a0_5, .int .i64 a0_6]) (t := 29) ?hr ?_; (case hd => rfl); (case hg => rfl); (case hr => first | (go_simp; done) | (go_simp; rfl)); intro gb156 hg w9 hbox hb; have n0_ := Sd.mk (below_step (by repeat (first | (with_reducible first | exact HB.out | apply below_alloc | apply pw_below_drewN | apply below_drew1) | exact HB.out)) hb); have n1_ := Sd.mk (hbox); have n2_ := Sd.mk ((by rw [hg]; exact (below_size (by repeat (first | (with_reducible first | exact HB.out | apply below_alloc | apply pw_below_drewN | apply below_drew1) | exact HB.out))) : w.heap.size ≤ gb156)); have n3_ := Sd.mk ((by rw [hg]; exact (below_size (by repeat (first | (with_reducible first | exact HB.out | apply below_alloc | apply pw_below_drewN | apply below_drew1) | exact HB.out))) : w.heap.size ≤ gb156)); clear HB; have HB := n0_; have BK156 := n1_; have GW156 := n2_; have GE156 := n3_; clear n0_ n1_ n2_ n3_; clear hb hbox hg; have hcz10_0 : w9.cell? ⟨gb156, 0, none⟩ = some (.slice A0_0 l0_0.length c0_0) := (blk_cell BK156.out 0).trans rfl; have hcz10_1 : w9.cell? ⟨gb156, 1, none⟩ = some (.slice A0_1 l0_1.length c0_1) := (blk_cell BK156.out 1).trans rfl; have hcz10_2 : w9.cell? ⟨gb156, 2, none⟩ = some (.slice A0_2 l0_2.length c0_2) := (blk_cell BK156.out 2).trans rfl; have hcz10_3 : w9.cell? ⟨gb156, 3, none⟩ = some (.slice A0_3 l0_3.length c0_3) := (blk_cell BK156.out 3).trans rfl; have hcz10_4 : w9.cell? ⟨gb156, 4, none⟩ = some (.int .i64 a0_4) := (blk_cell BK156.out 4).trans rfl; have hcz10_5 : w9.cell? ⟨gb156, 5, none⟩ = some (.int .i64 a0_5) := (blk_cell BK156.out 5).trans rfl; have hcz10_6 : w9.cell? ⟨gb156, 6, none⟩ = some (.int .i64 a0_6) := (blk_cell BK156.out 6).trans rfl; have hfz10_0 := blk_frozen BK156.out 0; have hfz10_1 := blk_frozen BK156.out 1; have hfz10_2 := blk_frozen BK156.out 2; have hfz10_3 := blk_frozen BK156.out 3; have hfz10_4 := blk_frozen BK156.out 4; have hfz10_5 := blk_frozen BK156.out 5; have hfz10_6 := blk_frozen BK156.out 6) | (go_at_call 27; (with_reducible refine (x_kilos.calls _ _ l1 false _ ?side1 ?side2 A4.out).mono ?_); (case side1 => repeat (first | exact (Kd.C_below HR1.out HB.out) | (with_reducible refine Kd.C_alloc ?_ _) | (with_reducible refine Kd.C_drewN ?_ _) | (with_reducible refine Kd.C_drew ?_))); (case side2 => exact HC1.out); rintro e w11 ⟨rfl, hb⟩; have n0_ := Sd.mk (blk_below (g := gb156) (o := .cells #[.slice A0_0 l0_0.length c0_0, .slice A0_1 l0_1.length c0_1, .slice A0_2 l0_2.length c0_2, .slice A0_3 l0_3.length c0_3, .int .i64 a0_4, .int .i64 a0_5, .int .i64 a0_6] 29 (0, 0)) (by (with_reducible repeat (first | refine blk_drewN ?_ _ | refine blk_drew ?_ | refine blk_alloc ?_ _)); exact BK156.out) hb); have n1_ := Sd.mk (below_step (by repeat (first | (with_reducible first | exact HB.out | apply below_alloc | apply pw_below_drewN | apply below_drew1 | refine below_set ?_ GE156.out) | exact HB.out)) hb); clear BK156; clear HB; have BK156 := n0_; have HB := n1_; clear n0_ n1_; (try clear hb); (try clear hb2); (try clear hk); (try clear hi)))
      go_ret
      exact ⟨by first | rfl | (simp [errW_none, errW_some] <;> rfl) | (simp [*, errW_none, errW_some] <;> rfl), by repeat (first | (with_reducible first | exact HB.out | apply below_alloc | apply pw_below_drewN | apply below_drew1 | refine below_set ?_ GE156.out) | exact HB.out)⟩
  · rw [if_neg c3] at H
    have c3b0 : ((l1.length : Int) == (l0_1.length : Int)) = false := beq_eq_false_iff_ne.mpr c3
    have c3b1 : ((l1.length : Int) != (l0_1.length : Int)) = true := bne_iff_ne.mpr c3
    have c3b2 : (l1.length == l0_1.length) = false := by first | simpa using c3 | (simp at c3 ⊢; omega)
    obtain rfl := Option.some.inj H
    go_enter Tryz.func57, Tryz.ntmps57
    go_wp2_with (first | ((with_reducible refine gate_dst (N := 2) rfl ?_); refine box_event ?hg (N := 2) ?hd (cs := #[.slice A0_0 l0_0.length c0_0, .slice A0_1 l0_1.length c0_1, .slice A0_2 l0_2.length c0_2, .slice A0_3 l0_3.length c0_3, .int .i64 a0_4, .int .i64 a0_5, .int .i64 a0_6]) (t := 29) ?hr ?_; (case hd => rfl); (case hg => rfl); (case hr => first | (go_simp; done) | (go_simp; rfl)); intro gb156 hg w12 hbox hb; have n0_ := Sd.mk (below_step (by repeat (first | (with_reducible first | exact HB.out | apply below_alloc | apply pw_below_drewN | apply below_drew1) | exact HB.out)) hb); have n1_ := Sd.mk (hbox); have n2_ := Sd.mk ((by rw [hg]; exact (below_size (by repeat (first | (with_reducible first | exact HB.out | apply below_alloc | apply pw_below_drewN | apply below_drew1) | exact HB.out))) : w.heap.size ≤ gb156)); have n3_ := Sd.mk ((by rw [hg]; exact (below_size (by repeat (first | (with_reducible first | exact HB.out | apply below_alloc | apply pw_below_drewN | apply below_drew1) | exact HB.out))) : w.heap.size ≤ gb156)); clear HB; have HB := n0_; have BK156 := n1_; have GW156 := n2_; have GE156 := n3_; clear n0_ n1_ n2_ n3_; clear hb hbox hg; have hcz13_0 : w12.cell? ⟨gb156, 0, none⟩ = some (.slice A0_0 l0_0.length c0_0) := (blk_cell BK156.out 0).trans rfl; have hcz13_1 : w12.cell? ⟨gb156, 1, none⟩ = some (.slice A0_1 l0_1.length c0_1) := (blk_cell BK156.out 1).trans rfl; have hcz13_2 : w12.cell? ⟨gb156, 2, none⟩ = some (.slice A0_2 l0_2.length c0_2) := (blk_cell BK156.out 2).trans rfl; have hcz13_3 : w12.cell? ⟨gb156, 3, none⟩ = some (.slice A0_3 l0_3.length c0_3) := (blk_cell BK156.out 3).trans rfl; have hcz13_4 : w12.cell? ⟨gb156, 4, none⟩ = some (.int .i64 a0_4) := (blk_cell BK156.out 4).trans rfl; have hcz13_5 : w12.cell? ⟨gb156, 5, none⟩ = some (.int .i64 a0_5) := (blk_cell BK156.out 5).trans rfl; have hcz13_6 : w12.cell? ⟨gb156, 6, none⟩ = some (.int .i64 a0_6) := (blk_cell BK156.out 6).trans rfl; have hfz13_0 := blk_frozen BK156.out 0; have hfz13_1 := blk_frozen BK156.out 1; have hfz13_2 := blk_frozen BK156.out 2; have hfz13_3 := blk_frozen BK156.out 3; have hfz13_4 := blk_frozen BK156.out 4; have hfz13_5 := blk_frozen BK156.out 5; have hfz13_6 := blk_frozen BK156.out 6))
    go_ret
    exact ⟨by first | rfl | (simp [errW_none, errW_some] <;> rfl) | (simp [*, errW_none, errW_some] <;> rfl), by repeat (first | (with_reducible first | exact HB.out | apply below_alloc | apply pw_below_drewN | apply below_drew1 | refine below_set ?_ GE156.out) | exact HB.out)⟩
end
section
def b_asked.f (k : Nat) (l0_0 : List ByteArray) (l0_1 : List (S50)) (l0_2 : List (S27)) (l0_3 : List (S77)) (a0_4 : Int) (a0_5 : Int) (a0_6 : Int) (l1 : List Int) : Option (Int) := (b_Check.f k l0_0 l0_1 l0_2 l0_3 a0_4 a0_5 a0_6).bind fun t159 => (if t159 = 0 then ((b_checkRecipe.f l0_0 l0_1 l0_2 l0_3 a0_4 a0_5 a0_6 l1).bind fun t160 => (some t160)) else (some t159))
theorem b_asked.calls (k : Nat) (A0_0 : Option Addr) (c0_0 : Nat) (l0_0 : List ByteArray) (A0_1 : Option Addr) (c0_1 : Nat) (l0_1 : List (S50)) (A0_2 : Option Addr) (c0_2 : Nat) (l0_2 : List (S27)) (A0_3 : Option Addr) (c0_3 : Nat) (l0_3 : List (S77)) (a0_4 : Int) (a0_5 : Int) (a0_6 : Int) (A1 : Option Addr) (c1 : Nat) (l1 : List Int) (r : Int) (w : World) (hr0_0 : Kd.C Kd.string w A0_0 l0_0.length l0_0) (hc0_0 : l0_0.length ≤ c0_0) (hr0_1 : Kd.C k50 w A0_1 l0_1.length l0_1) (hc0_1 : l0_1.length ≤ c0_1) (hr0_2 : Kd.C k27 w A0_2 l0_2.length l0_2) (hc0_2 : l0_2.length ≤ c0_2) (hr0_3 : Kd.C k77 w A0_3 l0_3.length l0_3) (hc0_3 : l0_3.length ≤ c0_3) (hr1 : Kd.C (Kd.int .i64) w A1 l1.length l1) (hc1 : l1.length ≤ c1) (h : b_asked.f k l0_0 l0_1 l0_2 l0_3 a0_4 a0_5 a0_6 l1 = some r) :
    Calls Tryz.prog 20 #[.agg #[.slice A0_0 l0_0.length c0_0, .slice A0_1 l0_1.length c0_1, .slice A0_2 l0_2.length c0_2, .slice A0_3 l0_3.length c0_3, .int .i64 a0_4, .int .i64 a0_5, .int .i64 a0_6], .slice A1 l1.length c1] w fun e w' => e = .returned (.int .i64 r) ∧ Below w.heap.size w w' := by
  have hu29 := Tryz.underlying29
  have HR0_0 := Sd.mk hr0_0
  have HC0_0 := Sd.mk hc0_0
  clear hr0_0 hc0_0
  have HR0_1 := Sd.mk hr0_1
  have HC0_1 := Sd.mk hc0_1
  clear hr0_1 hc0_1
  have HR0_2 := Sd.mk hr0_2
  have HC0_2 := Sd.mk hc0_2
  clear hr0_2 hc0_2
  have HR0_3 := Sd.mk hr0_3
  have HC0_3 := Sd.mk hc0_3
  clear hr0_3 hc0_3
  have HR1 := Sd.mk hr1
  have HC1 := Sd.mk hc1
  clear hr1 hc1
  have HB := Sd.mk (Below.refl w.heap.size w)
  have H : ((b_Check.f k l0_0 l0_1 l0_2 l0_3 a0_4 a0_5 a0_6).bind fun t159 => (if t159 = 0 then ((b_checkRecipe.f l0_0 l0_1 l0_2 l0_3 a0_4 a0_5 a0_6 l1).bind fun t160 => (some t160)) else (some t159))) = some r := h
  clear h
  replace H := Option.bind_eq_some_iff.mp H
  obtain ⟨t159, A30, H⟩ := H
  replace H : (if t159 = 0 then ((b_checkRecipe.f l0_0 l0_1 l0_2 l0_3 a0_4 a0_5 a0_6 l1).bind fun t160 => (some t160)) else (some t159)) = some r := H
  have A3 := Sd.mk A30
  clear A30
  by_cases c4 : t159 = 0
  · rw [if_pos c4] at H
    have c4b0 : (t159 == 0) = true := beq_iff_eq.mpr c4
    have c4b1 : (t159 != 0) = false := bne_eq_false_iff_eq.mpr c4
    clear c4
    replace H := Option.bind_eq_some_iff.mp H
    obtain ⟨t160, A50, H⟩ := H
    replace H : (some t160) = some r := H
    have A5 := Sd.mk A50
    clear A50
    obtain rfl := Option.some.inj H
    go_enter Tryz.func20, Tryz.ntmps20
    go_wp2_with (first | ((with_reducible refine gate_dst (N := 2) rfl ?_); refine box_event ?hg (N := 2) ?hd (cs := #[.slice A0_0 l0_0.length c0_0, .slice A0_1 l0_1.length c0_1, .slice A0_2 l0_2.length c0_2, .slice A0_3 l0_3.length c0_3, .int .i64 a0_4, .int .i64 a0_5, .int .i64 a0_6]) (t := 29) ?hr ?_; (case hd => rfl); (case hg => rfl); (case hr => first | (go_simp; done) | (go_simp; rfl)); intro gb158 hg w6 hbox hb; have n0_ := Sd.mk (below_step (by repeat (first | (with_reducible first | exact HB.out | apply below_alloc | apply pw_below_drewN | apply below_drew1) | exact HB.out)) hb); have n1_ := Sd.mk (hbox); have n2_ := Sd.mk ((by rw [hg]; exact (below_size (by repeat (first | (with_reducible first | exact HB.out | apply below_alloc | apply pw_below_drewN | apply below_drew1) | exact HB.out))) : w.heap.size ≤ gb158)); have n3_ := Sd.mk ((by rw [hg]; exact (below_size (by repeat (first | (with_reducible first | exact HB.out | apply below_alloc | apply pw_below_drewN | apply below_drew1) | exact HB.out))) : w.heap.size ≤ gb158)); clear HB; have HB := n0_; have BK158 := n1_; have GW158 := n2_; have GE158 := n3_; clear n0_ n1_ n2_ n3_; clear hb hbox hg; have hcz7_0 : w6.cell? ⟨gb158, 0, none⟩ = some (.slice A0_0 l0_0.length c0_0) := (blk_cell BK158.out 0).trans rfl; have hcz7_1 : w6.cell? ⟨gb158, 1, none⟩ = some (.slice A0_1 l0_1.length c0_1) := (blk_cell BK158.out 1).trans rfl; have hcz7_2 : w6.cell? ⟨gb158, 2, none⟩ = some (.slice A0_2 l0_2.length c0_2) := (blk_cell BK158.out 2).trans rfl; have hcz7_3 : w6.cell? ⟨gb158, 3, none⟩ = some (.slice A0_3 l0_3.length c0_3) := (blk_cell BK158.out 3).trans rfl; have hcz7_4 : w6.cell? ⟨gb158, 4, none⟩ = some (.int .i64 a0_4) := (blk_cell BK158.out 4).trans rfl; have hcz7_5 : w6.cell? ⟨gb158, 5, none⟩ = some (.int .i64 a0_5) := (blk_cell BK158.out 5).trans rfl; have hcz7_6 : w6.cell? ⟨gb158, 6, none⟩ = some (.int .i64 a0_6) := (blk_cell BK158.out 6).trans rfl; have hfz7_0 := blk_frozen BK158.out 0; have hfz7_1 := blk_frozen BK158.out 1; have hfz7_2 := blk_frozen BK158.out 2; have hfz7_3 := blk_frozen BK158.out 3; have hfz7_4 := blk_frozen BK158.out 4; have hfz7_5 := blk_frozen BK158.out 5; have hfz7_6 := blk_frozen BK158.out 6) | ((with_reducible refine gate_callee (f := 13) rfl ?_); refine goesL_ (some 7) rfl rfl Tryz.func13 (by kernel_rfl) rfl #[.agg #[.slice A0_0 l0_0.length c0_0, .slice A0_1 l0_1.length c0_1, .slice A0_2 l0_2.length c0_2, .slice A0_3 l0_3.length c0_3, .int .i64 a0_4, .int .i64 a0_5, .int .i64 a0_6]] rfl (by (try simp only [List.map_toArray, List.map_cons, List.map_nil]); first | done | rfl | (simp only [List.length_drop, List.length_take]; rfl)) ?_; (with_reducible refine (b_Check.calls k _ _ l0_0 _ _ l0_1 _ _ l0_2 _ _ l0_3 a0_4 a0_5 a0_6 t159 _ ?side1 ?side2 ?side3 ?side4 ?side5 ?side6 ?side7 ?side8 A3.out).mono ?_); (case side1 => repeat (first | exact (Kd.C_below HR0_0.out HB.out) | (with_reducible refine Kd.C_alloc ?_ _) | (with_reducible refine Kd.C_drewN ?_ _) | (with_reducible refine Kd.C_drew ?_))); (case side2 => exact HC0_0.out); (case side3 => repeat (first | exact (Kd.C_below HR0_1.out HB.out) | (with_reducible refine Kd.C_alloc ?_ _) | (with_reducible refine Kd.C_drewN ?_ _) | (with_reducible refine Kd.C_drew ?_))); (case side4 => exact HC0_1.out); (case side5 => repeat (first | exact (Kd.C_below HR0_2.out HB.out) | (with_reducible refine Kd.C_alloc ?_ _) | (with_reducible refine Kd.C_drewN ?_ _) | (with_reducible refine Kd.C_drew ?_))); (case side6 => exact HC0_2.out); (case side7 => repeat (first | exact (Kd.C_below HR0_3.out HB.out) | (with_reducible refine Kd.C_alloc ?_ _) | (with_reducible refine Kd.C_drewN ?_ _) | (with_reducible refine Kd.C_drew ?_))); (case side8 => exact HC0_3.out); rintro e w8 ⟨rfl, hb⟩; refine ⟨_, rfl, ?_⟩; have n0_ := Sd.mk (blk_below (g := gb158) (o := .cells #[.slice A0_0 l0_0.length c0_0, .slice A0_1 l0_1.length c0_1, .slice A0_2 l0_2.length c0_2, .slice A0_3 l0_3.length c0_3, .int .i64 a0_4, .int .i64 a0_5, .int .i64 a0_6] 29 (0, 0)) (by (with_reducible repeat (first | refine blk_drewN ?_ _ | refine blk_drew ?_ | refine blk_alloc ?_ _)); exact BK158.out) hb); have n1_ := Sd.mk (below_step (by repeat (first | (with_reducible first | exact HB.out | apply below_alloc | apply pw_below_drewN | apply below_drew1 | refine below_set ?_ GE158.out) | exact HB.out)) hb); clear BK158; clear HB; have BK158 := n0_; have HB := n1_; clear n0_ n1_; (try clear hb); (try clear hb2); (try clear hk); (try clear hi); have hcz9_0 : w8.cell? ⟨gb158, 0, none⟩ = some (.slice A0_0 l0_0.length c0_0) := (blk_cell BK158.out 0).trans rfl; have hcz9_1 : w8.cell? ⟨gb158, 1, none⟩ = some (.slice A0_1 l0_1.length c0_1) := (blk_cell BK158.out 1).trans rfl; have hcz9_2 : w8.cell? ⟨gb158, 2, none⟩ = some (.slice A0_2 l0_2.length c0_2) := (blk_cell BK158.out 2).trans rfl; have hcz9_3 : w8.cell? ⟨gb158, 3, none⟩ = some (.slice A0_3 l0_3.length c0_3) := (blk_cell BK158.out 3).trans rfl; have hcz9_4 : w8.cell? ⟨gb158, 4, none⟩ = some (.int .i64 a0_4) := (blk_cell BK158.out 4).trans rfl; have hcz9_5 : w8.cell? ⟨gb158, 5, none⟩ = some (.int .i64 a0_5) := (blk_cell BK158.out 5).trans rfl; have hcz9_6 : w8.cell? ⟨gb158, 6, none⟩ = some (.int .i64 a0_6) := (blk_cell BK158.out 6).trans rfl; have hfz9_0 := blk_frozen BK158.out 0; have hfz9_1 := blk_frozen BK158.out 1; have hfz9_2 := blk_frozen BK158.out 2; have hfz9_3 := blk_frozen BK158.out 3; have hfz9_4 := blk_frozen BK158.out 4; have hfz9_5 := blk_frozen BK158.out 5; have hfz9_6 := blk_frozen BK158.out 6) | ((with_reducible refine gate_callee (f := 57) rfl ?_); refine goesL_ (some 13) rfl rfl Tryz.func57 (by kernel_rfl) rfl #[.agg #[.slice A0_0 l0_0.length c0_0, .slice A0_1 l0_1.length c0_1, .slice A0_2 l0_2.length c0_2, .slice A0_3 l0_3.length c0_3, .int .i64 a0_4, .int .i64 a0_5, .int .i64 a0_6], .slice A1 l1.length c1] rfl (by (try simp only [List.map_toArray, List.map_cons, List.map_nil]); first | done | rfl | (simp only [List.length_drop, List.length_take]; rfl)) ?_; (with_reducible refine (b_checkRecipe.calls _ _ l0_0 _ _ l0_1 _ _ l0_2 _ _ l0_3 a0_4 a0_5 a0_6 _ _ l1 t160 _ ?side1 ?side2 ?side3 ?side4 ?side5 ?side6 ?side7 ?side8 ?side9 ?side10 A5.out).mono ?_); (case side1 => repeat (first | exact (Kd.C_below HR0_0.out HB.out) | (with_reducible refine Kd.C_alloc ?_ _) | (with_reducible refine Kd.C_drewN ?_ _) | (with_reducible refine Kd.C_drew ?_))); (case side2 => exact HC0_0.out); (case side3 => repeat (first | exact (Kd.C_below HR0_1.out HB.out) | (with_reducible refine Kd.C_alloc ?_ _) | (with_reducible refine Kd.C_drewN ?_ _) | (with_reducible refine Kd.C_drew ?_))); (case side4 => exact HC0_1.out); (case side5 => repeat (first | exact (Kd.C_below HR0_2.out HB.out) | (with_reducible refine Kd.C_alloc ?_ _) | (with_reducible refine Kd.C_drewN ?_ _) | (with_reducible refine Kd.C_drew ?_))); (case side6 => exact HC0_2.out); (case side7 => repeat (first | exact (Kd.C_below HR0_3.out HB.out) | (with_reducible refine Kd.C_alloc ?_ _) | (with_reducible refine Kd.C_drewN ?_ _) | (with_reducible refine Kd.C_drew ?_))); (case side8 => exact HC0_3.out); (case side9 => repeat (first | exact (Kd.C_below HR1.out HB.out) | (with_reducible refine Kd.C_alloc ?_ _) | (with_reducible refine Kd.C_drewN ?_ _) | (with_reducible refine Kd.C_drew ?_))); (case side10 => exact HC1.out); rintro e w10 ⟨rfl, hb⟩; refine ⟨_, rfl, ?_⟩; have n0_ := Sd.mk (blk_below (g := gb158) (o := .cells #[.slice A0_0 l0_0.length c0_0, .slice A0_1 l0_1.length c0_1, .slice A0_2 l0_2.length c0_2, .slice A0_3 l0_3.length c0_3, .int .i64 a0_4, .int .i64 a0_5, .int .i64 a0_6] 29 (0, 0)) (by (with_reducible repeat (first | refine blk_drewN ?_ _ | refine blk_drew ?_ | refine blk_alloc ?_ _)); exact BK158.out) hb); have n1_ := Sd.mk (below_step (by repeat (first | (with_reducible first | exact HB.out | apply below_alloc | apply pw_below_drewN | apply below_drew1 | refine below_set ?_ GE158.out) | exact HB.out)) hb); clear BK158; clear HB; have BK158 := n0_; have HB := n1_; clear n0_ n1_; (try clear hb); (try clear hb2); (try clear hk); (try clear hi)))
    go_ret
    exact ⟨by first | rfl | (simp [errW_none, errW_some] <;> rfl) | (simp [*, errW_none, errW_some] <;> rfl), by repeat (first | (with_reducible first | exact HB.out | apply below_alloc | apply pw_below_drewN | apply below_drew1 | refine below_set ?_ GE158.out) | exact HB.out)⟩
  · rw [if_neg c4] at H
    have c4b0 : (t159 == 0) = false := beq_eq_false_iff_ne.mpr c4
    have c4b1 : (t159 != 0) = true := bne_iff_ne.mpr c4
    obtain rfl := Option.some.inj H
    go_enter Tryz.func20, Tryz.ntmps20
    go_wp2_with (first | ((with_reducible refine gate_dst (N := 2) rfl ?_); refine box_event ?hg (N := 2) ?hd (cs := #[.slice A0_0 l0_0.length c0_0, .slice A0_1 l0_1.length c0_1, .slice A0_2 l0_2.length c0_2, .slice A0_3 l0_3.length c0_3, .int .i64 a0_4, .int .i64 a0_5, .int .i64 a0_6]) (t := 29) ?hr ?_; (case hd => rfl); (case hg => rfl); (case hr => first | (go_simp; done) | (go_simp; rfl)); intro gb158 hg w11 hbox hb; have n0_ := Sd.mk (below_step (by repeat (first | (with_reducible first | exact HB.out | apply below_alloc | apply pw_below_drewN | apply below_drew1) | exact HB.out)) hb); have n1_ := Sd.mk (hbox); have n2_ := Sd.mk ((by rw [hg]; exact (below_size (by repeat (first | (with_reducible first | exact HB.out | apply below_alloc | apply pw_below_drewN | apply below_drew1) | exact HB.out))) : w.heap.size ≤ gb158)); have n3_ := Sd.mk ((by rw [hg]; exact (below_size (by repeat (first | (with_reducible first | exact HB.out | apply below_alloc | apply pw_below_drewN | apply below_drew1) | exact HB.out))) : w.heap.size ≤ gb158)); clear HB; have HB := n0_; have BK158 := n1_; have GW158 := n2_; have GE158 := n3_; clear n0_ n1_ n2_ n3_; clear hb hbox hg; have hcz12_0 : w11.cell? ⟨gb158, 0, none⟩ = some (.slice A0_0 l0_0.length c0_0) := (blk_cell BK158.out 0).trans rfl; have hcz12_1 : w11.cell? ⟨gb158, 1, none⟩ = some (.slice A0_1 l0_1.length c0_1) := (blk_cell BK158.out 1).trans rfl; have hcz12_2 : w11.cell? ⟨gb158, 2, none⟩ = some (.slice A0_2 l0_2.length c0_2) := (blk_cell BK158.out 2).trans rfl; have hcz12_3 : w11.cell? ⟨gb158, 3, none⟩ = some (.slice A0_3 l0_3.length c0_3) := (blk_cell BK158.out 3).trans rfl; have hcz12_4 : w11.cell? ⟨gb158, 4, none⟩ = some (.int .i64 a0_4) := (blk_cell BK158.out 4).trans rfl; have hcz12_5 : w11.cell? ⟨gb158, 5, none⟩ = some (.int .i64 a0_5) := (blk_cell BK158.out 5).trans rfl; have hcz12_6 : w11.cell? ⟨gb158, 6, none⟩ = some (.int .i64 a0_6) := (blk_cell BK158.out 6).trans rfl; have hfz12_0 := blk_frozen BK158.out 0; have hfz12_1 := blk_frozen BK158.out 1; have hfz12_2 := blk_frozen BK158.out 2; have hfz12_3 := blk_frozen BK158.out 3; have hfz12_4 := blk_frozen BK158.out 4; have hfz12_5 := blk_frozen BK158.out 5; have hfz12_6 := blk_frozen BK158.out 6) | ((with_reducible refine gate_callee (f := 13) rfl ?_); refine goesL_ (some 7) rfl rfl Tryz.func13 (by kernel_rfl) rfl #[.agg #[.slice A0_0 l0_0.length c0_0, .slice A0_1 l0_1.length c0_1, .slice A0_2 l0_2.length c0_2, .slice A0_3 l0_3.length c0_3, .int .i64 a0_4, .int .i64 a0_5, .int .i64 a0_6]] rfl (by (try simp only [List.map_toArray, List.map_cons, List.map_nil]); first | done | rfl | (simp only [List.length_drop, List.length_take]; rfl)) ?_; (with_reducible refine (b_Check.calls k _ _ l0_0 _ _ l0_1 _ _ l0_2 _ _ l0_3 a0_4 a0_5 a0_6 t159 _ ?side1 ?side2 ?side3 ?side4 ?side5 ?side6 ?side7 ?side8 A3.out).mono ?_); (case side1 => repeat (first | exact (Kd.C_below HR0_0.out HB.out) | (with_reducible refine Kd.C_alloc ?_ _) | (with_reducible refine Kd.C_drewN ?_ _) | (with_reducible refine Kd.C_drew ?_))); (case side2 => exact HC0_0.out); (case side3 => repeat (first | exact (Kd.C_below HR0_1.out HB.out) | (with_reducible refine Kd.C_alloc ?_ _) | (with_reducible refine Kd.C_drewN ?_ _) | (with_reducible refine Kd.C_drew ?_))); (case side4 => exact HC0_1.out); (case side5 => repeat (first | exact (Kd.C_below HR0_2.out HB.out) | (with_reducible refine Kd.C_alloc ?_ _) | (with_reducible refine Kd.C_drewN ?_ _) | (with_reducible refine Kd.C_drew ?_))); (case side6 => exact HC0_2.out); (case side7 => repeat (first | exact (Kd.C_below HR0_3.out HB.out) | (with_reducible refine Kd.C_alloc ?_ _) | (with_reducible refine Kd.C_drewN ?_ _) | (with_reducible refine Kd.C_drew ?_))); (case side8 => exact HC0_3.out); rintro e w13 ⟨rfl, hb⟩; refine ⟨_, rfl, ?_⟩; have n0_ := Sd.mk (blk_below (g := gb158) (o := .cells #[.slice A0_0 l0_0.length c0_0, .slice A0_1 l0_1.length c0_1, .slice A0_2 l0_2.length c0_2, .slice A0_3 l0_3.length c0_3, .int .i64 a0_4, .int .i64 a0_5, .int .i64 a0_6] 29 (0, 0)) (by (with_reducible repeat (first | refine blk_drewN ?_ _ | refine blk_drew ?_ | refine blk_alloc ?_ _)); exact BK158.out) hb); have n1_ := Sd.mk (below_step (by repeat (first | (with_reducible first | exact HB.out | apply below_alloc | apply pw_below_drewN | apply below_drew1 | refine below_set ?_ GE158.out) | exact HB.out)) hb); clear BK158; clear HB; have BK158 := n0_; have HB := n1_; clear n0_ n1_; (try clear hb); (try clear hb2); (try clear hk); (try clear hi)))
    go_ret
    exact ⟨by first | rfl | (simp [errW_none, errW_some] <;> rfl) | (simp [*, errW_none, errW_some] <;> rfl), by repeat (first | (with_reducible first | exact HB.out | apply below_alloc | apply pw_below_drewN | apply below_drew1 | refine below_set ?_ GE158.out) | exact HB.out)⟩
end
end Go.Proofs.YtnmdojgfedddbaaGreatDoor.PB
