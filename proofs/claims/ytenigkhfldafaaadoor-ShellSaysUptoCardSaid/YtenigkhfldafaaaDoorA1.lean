import Derived.Test.YtenigkhfldafaaaDoorA0
import Derived.Test.YtenigkhfldafaaaDoorZ
namespace Go.Proofs.YtenigkhfldafaaaDoor.A
open Go.RowKit Go.Proofs.YtenigkhfldafaaaDoorW.PrintWords Go.Proofs.YtenigkhfldafaaaDoorW.PrintLast Go.Proofs.YtenigkhfldafaaaDoorW.PrintMore
attribute [local go_sem] max2_int min2_int max_two min_two max_three min_three max_four min_four
set_option linter.unusedVariables false
set_option linter.unusedSimpArgs false
def shell_device.f (a0 : Int) : Option (ByteArray × ByteArray) := if a0 = 16 then (some ((⟨#[109, 111, 117, 110, 116]⟩ : ByteArray), (⟨#[]⟩ : ByteArray))) else (if a0 = 17 then (some ((⟨#[108, 101, 97, 118, 101]⟩ : ByteArray), (⟨#[]⟩ : ByteArray))) else (if a0 = 18 then (some ((⟨#[97, 114, 109]⟩ : ByteArray), (⟨#[110]⟩ : ByteArray))) else (if a0 = 19 then (some ((⟨#[99, 114, 97, 115, 104]⟩ : ByteArray), (⟨#[107]⟩ : ByteArray))) else (if a0 = 20 then (some ((⟨#[108, 97, 121]⟩ : ByteArray), (⟨#[110, 116]⟩ : ByteArray))) else (if a0 = 21 then (some ((⟨#[115, 112, 111, 105, 108]⟩ : ByteArray), (⟨#[110]⟩ : ByteArray))) else (if a0 = 22 then (some ((⟨#[115, 97, 118, 101]⟩ : ByteArray), (⟨#[]⟩ : ByteArray))) else (if a0 = 23 then (some ((⟨#[98, 97, 99, 107]⟩ : ByteArray), (⟨#[110, 109]⟩ : ByteArray))) else (if a0 = 24 then (some ((⟨#[99, 104, 101, 99, 107]⟩ : ByteArray), (⟨#[]⟩ : ByteArray))) else (if a0 = 25 then (some ((⟨#[114, 101, 112, 97, 105, 114]⟩ : ByteArray), (⟨#[]⟩ : ByteArray))) else (some ((⟨#[]⟩ : ByteArray), (⟨#[]⟩ : ByteArray))))))))))))
set_option maxHeartbeats 8000000 in
set_option maxRecDepth 100000 in
theorem shell_device.calls (a0 : Int) (r1 : ByteArray) (r2 : ByteArray) (w : World) (h : shell_device.f a0 = some (r1, r2)) :
  Calls Tryd.prog 52 #[.int .i64 a0] w fun e w' => e = .returned (.tuple #[.string r1, .string r2]) ∧ Drawn0 w w' := by
 have H : (if a0 = 16 then (some ((⟨#[109, 111, 117, 110, 116]⟩ : ByteArray), (⟨#[]⟩ : ByteArray))) else (if a0 = 17 then (some ((⟨#[108, 101, 97, 118, 101]⟩ : ByteArray), (⟨#[]⟩ : ByteArray))) else (if a0 = 18 then (some ((⟨#[97, 114, 109]⟩ : ByteArray), (⟨#[110]⟩ : ByteArray))) else (if a0 = 19 then (some ((⟨#[99, 114, 97, 115, 104]⟩ : ByteArray), (⟨#[107]⟩ : ByteArray))) else (if a0 = 20 then (some ((⟨#[108, 97, 121]⟩ : ByteArray), (⟨#[110, 116]⟩ : ByteArray))) else (if a0 = 21 then (some ((⟨#[115, 112, 111, 105, 108]⟩ : ByteArray), (⟨#[110]⟩ : ByteArray))) else (if a0 = 22 then (some ((⟨#[115, 97, 118, 101]⟩ : ByteArray), (⟨#[]⟩ : ByteArray))) else (if a0 = 23 then (some ((⟨#[98, 97, 99, 107]⟩ : ByteArray), (⟨#[110, 109]⟩ : ByteArray))) else (if a0 = 24 then (some ((⟨#[99, 104, 101, 99, 107]⟩ : ByteArray), (⟨#[]⟩ : ByteArray))) else (if a0 = 25 then (some ((⟨#[114, 101, 112, 97, 105, 114]⟩ : ByteArray), (⟨#[]⟩ : ByteArray))) else (some ((⟨#[]⟩ : ByteArray), (⟨#[]⟩ : ByteArray))))))))))))) = some (r1, r2) := h; clear h
 by_cases c2 : a0 = 16
 ·rw [if_pos c2] at H; have c2b0 : (a0 == 16) = true := beq_iff_eq.mpr c2; have c2b1 : (a0 != 16) = false := bne_eq_false_iff_eq.mpr c2; clear c2; simp only [Option.some.injEq, Prod.mk.injEq] at H; obtain ⟨rfl, rfl⟩ := H; go_enter Tryd.func52, Tryd.ntmps52; go_wp2
  go_ret2
  exact ⟨by first | rfl | (simp; done) | (simp [*]; done), dr1⟩
 ·rw [if_neg c2] at H; have c2b0 : (a0 == 16) = false := beq_eq_false_iff_ne.mpr c2; have c2b1 : (a0 != 16) = true := bne_iff_ne.mpr c2
  by_cases c3 : a0 = 17
  ·rw [if_pos c3] at H; have c3b0 : (a0 == 17) = true := beq_iff_eq.mpr c3; have c3b1 : (a0 != 17) = false := bne_eq_false_iff_eq.mpr c3; clear c3; simp only [Option.some.injEq, Prod.mk.injEq] at H; obtain ⟨rfl, rfl⟩ := H; go_enter Tryd.func52, Tryd.ntmps52; go_wp2
   go_ret2
   exact ⟨by first | rfl | (simp; done) | (simp [*]; done), dr1⟩
  ·rw [if_neg c3] at H; have c3b0 : (a0 == 17) = false := beq_eq_false_iff_ne.mpr c3; have c3b1 : (a0 != 17) = true := bne_iff_ne.mpr c3
   by_cases c4 : a0 = 18
   ·rw [if_pos c4] at H; have c4b0 : (a0 == 18) = true := beq_iff_eq.mpr c4; have c4b1 : (a0 != 18) = false := bne_eq_false_iff_eq.mpr c4; clear c4; simp only [Option.some.injEq, Prod.mk.injEq] at H; obtain ⟨rfl, rfl⟩ := H; go_enter Tryd.func52, Tryd.ntmps52; go_wp2
    go_ret2
    exact ⟨by first | rfl | (simp; done) | (simp [*]; done), dr1⟩
   ·rw [if_neg c4] at H; have c4b0 : (a0 == 18) = false := beq_eq_false_iff_ne.mpr c4; have c4b1 : (a0 != 18) = true := bne_iff_ne.mpr c4
    by_cases c5 : a0 = 19
    ·rw [if_pos c5] at H; have c5b0 : (a0 == 19) = true := beq_iff_eq.mpr c5; have c5b1 : (a0 != 19) = false := bne_eq_false_iff_eq.mpr c5; clear c5; simp only [Option.some.injEq, Prod.mk.injEq] at H; obtain ⟨rfl, rfl⟩ := H; go_enter Tryd.func52, Tryd.ntmps52; go_wp2
     go_ret2
     exact ⟨by first | rfl | (simp; done) | (simp [*]; done), dr1⟩
    ·rw [if_neg c5] at H; have c5b0 : (a0 == 19) = false := beq_eq_false_iff_ne.mpr c5; have c5b1 : (a0 != 19) = true := bne_iff_ne.mpr c5
     by_cases c6 : a0 = 20
     ·rw [if_pos c6] at H; have c6b0 : (a0 == 20) = true := beq_iff_eq.mpr c6; have c6b1 : (a0 != 20) = false := bne_eq_false_iff_eq.mpr c6; clear c6; simp only [Option.some.injEq, Prod.mk.injEq] at H; obtain ⟨rfl, rfl⟩ := H; go_enter Tryd.func52, Tryd.ntmps52; go_wp2
      go_ret2
      exact ⟨by first | rfl | (simp; done) | (simp [*]; done), dr1⟩
     ·rw [if_neg c6] at H; have c6b0 : (a0 == 20) = false := beq_eq_false_iff_ne.mpr c6; have c6b1 : (a0 != 20) = true := bne_iff_ne.mpr c6
      by_cases c7 : a0 = 21
      ·rw [if_pos c7] at H; have c7b0 : (a0 == 21) = true := beq_iff_eq.mpr c7; have c7b1 : (a0 != 21) = false := bne_eq_false_iff_eq.mpr c7; clear c7; simp only [Option.some.injEq, Prod.mk.injEq] at H; obtain ⟨rfl, rfl⟩ := H; go_enter Tryd.func52, Tryd.ntmps52; go_wp2
       go_ret2
       exact ⟨by first | rfl | (simp; done) | (simp [*]; done), dr1⟩
      ·rw [if_neg c7] at H; have c7b0 : (a0 == 21) = false := beq_eq_false_iff_ne.mpr c7; have c7b1 : (a0 != 21) = true := bne_iff_ne.mpr c7
       by_cases c8 : a0 = 22
       ·rw [if_pos c8] at H; have c8b0 : (a0 == 22) = true := beq_iff_eq.mpr c8; have c8b1 : (a0 != 22) = false := bne_eq_false_iff_eq.mpr c8; clear c8; simp only [Option.some.injEq, Prod.mk.injEq] at H; obtain ⟨rfl, rfl⟩ := H; go_enter Tryd.func52, Tryd.ntmps52; go_wp2
        go_ret2
        exact ⟨by first | rfl | (simp; done) | (simp [*]; done), dr1⟩
       ·rw [if_neg c8] at H; have c8b0 : (a0 == 22) = false := beq_eq_false_iff_ne.mpr c8; have c8b1 : (a0 != 22) = true := bne_iff_ne.mpr c8
        by_cases c9 : a0 = 23
        ·rw [if_pos c9] at H; have c9b0 : (a0 == 23) = true := beq_iff_eq.mpr c9; have c9b1 : (a0 != 23) = false := bne_eq_false_iff_eq.mpr c9; clear c9; simp only [Option.some.injEq, Prod.mk.injEq] at H; obtain ⟨rfl, rfl⟩ := H; go_enter Tryd.func52, Tryd.ntmps52; go_wp2
         go_ret2
         exact ⟨by first | rfl | (simp; done) | (simp [*]; done), dr1⟩
        ·rw [if_neg c9] at H; have c9b0 : (a0 == 23) = false := beq_eq_false_iff_ne.mpr c9; have c9b1 : (a0 != 23) = true := bne_iff_ne.mpr c9
         by_cases c10 : a0 = 24
         ·rw [if_pos c10] at H; have c10b0 : (a0 == 24) = true := beq_iff_eq.mpr c10; have c10b1 : (a0 != 24) = false := bne_eq_false_iff_eq.mpr c10; clear c10; simp only [Option.some.injEq, Prod.mk.injEq] at H; obtain ⟨rfl, rfl⟩ := H; go_enter Tryd.func52, Tryd.ntmps52; go_wp2
          go_ret2
          exact ⟨by first | rfl | (simp; done) | (simp [*]; done), dr1⟩
         ·rw [if_neg c10] at H; have c10b0 : (a0 == 24) = false := beq_eq_false_iff_ne.mpr c10; have c10b1 : (a0 != 24) = true := bne_iff_ne.mpr c10
          by_cases c11 : a0 = 25
          ·rw [if_pos c11] at H; have c11b0 : (a0 == 25) = true := beq_iff_eq.mpr c11; have c11b1 : (a0 != 25) = false := bne_eq_false_iff_eq.mpr c11; clear c11; simp only [Option.some.injEq, Prod.mk.injEq] at H; obtain ⟨rfl, rfl⟩ := H; go_enter Tryd.func52, Tryd.ntmps52; go_wp2
           go_ret2
           exact ⟨by first | rfl | (simp; done) | (simp [*]; done), dr1⟩
          ·rw [if_neg c11] at H; have c11b0 : (a0 == 25) = false := beq_eq_false_iff_ne.mpr c11; have c11b1 : (a0 != 25) = true := bne_iff_ne.mpr c11; simp only [Option.some.injEq, Prod.mk.injEq] at H; obtain ⟨rfl, rfl⟩ := H; go_enter Tryd.func52, Tryd.ntmps52; go_wp2
           go_ret2
           exact ⟨by first | rfl | (simp; done) | (simp [*]; done), dr1⟩
def shell_command.f (a0 : Int) : Option (ByteArray × ByteArray) := if a0 = 1 then (some ((⟨#[109, 107, 100, 105, 114]⟩ : ByteArray), (⟨#[112]⟩ : ByteArray))) else (if a0 = 2 then (some ((⟨#[99, 114, 101, 97, 116, 101]⟩ : ByteArray), (⟨#[112]⟩ : ByteArray))) else (if a0 = 3 then (some ((⟨#[119, 114, 105, 116, 101]⟩ : ByteArray), (⟨#[102, 110, 116]⟩ : ByteArray))) else (if a0 = 4 then (some ((⟨#[116, 114, 117, 110, 99]⟩ : ByteArray), (⟨#[102, 110]⟩ : ByteArray))) else (if a0 = 5 then (some ((⟨#[114, 101, 97, 100]⟩ : ByteArray), (⟨#[102, 110, 109]⟩ : ByteArray))) else (if a0 = 6 then (some ((⟨#[114, 101, 109, 111, 118, 101]⟩ : ByteArray), (⟨#[112]⟩ : ByteArray))) else (if a0 = 7 then (some ((⟨#[108, 105, 110, 107]⟩ : ByteArray), (⟨#[112, 113]⟩ : ByteArray))) else (if a0 = 8 then (some ((⟨#[114, 101, 110, 97, 109, 101]⟩ : ByteArray), (⟨#[112, 113]⟩ : ByteArray))) else (if a0 = 9 then (some ((⟨#[115, 116, 97, 116]⟩ : ByteArray), (⟨#[112]⟩ : ByteArray))) else (if a0 = 10 then (some ((⟨#[108, 105, 115, 116]⟩ : ByteArray), (⟨#[112]⟩ : ByteArray))) else (if a0 = 11 then (some ((⟨#[111, 112, 101, 110]⟩ : ByteArray), (⟨#[112]⟩ : ByteArray))) else (if a0 = 12 then (some ((⟨#[99, 108, 111, 115, 101]⟩ : ByteArray), (⟨#[102]⟩ : ByteArray))) else (if a0 = 13 then (some ((⟨#[115, 121, 110, 99]⟩ : ByteArray), (⟨#[]⟩ : ByteArray))) else (if a0 = 14 then (some ((⟨#[115, 121, 109, 108, 105, 110, 107]⟩ : ByteArray), (⟨#[112, 113]⟩ : ByteArray))) else (if a0 = 15 then (some ((⟨#[114, 101, 97, 100, 108, 105, 110, 107]⟩ : ByteArray), (⟨#[112]⟩ : ByteArray))) else ((shell_device.f a0).bind fun bt101 => (some (bt101.1, bt101.2)))))))))))))))))
set_option maxHeartbeats 8000000 in
set_option maxRecDepth 100000 in
theorem shell_command.calls (a0 : Int) (r1 : ByteArray) (r2 : ByteArray) (w : World) (h : shell_command.f a0 = some (r1, r2)) :
  Calls Tryd.prog 35 #[.int .i64 a0] w fun e w' => e = .returned (.tuple #[.string r1, .string r2]) ∧ Drawn0 w w' := by
 have H : (if a0 = 1 then (some ((⟨#[109, 107, 100, 105, 114]⟩ : ByteArray), (⟨#[112]⟩ : ByteArray))) else (if a0 = 2 then (some ((⟨#[99, 114, 101, 97, 116, 101]⟩ : ByteArray), (⟨#[112]⟩ : ByteArray))) else (if a0 = 3 then (some ((⟨#[119, 114, 105, 116, 101]⟩ : ByteArray), (⟨#[102, 110, 116]⟩ : ByteArray))) else (if a0 = 4 then (some ((⟨#[116, 114, 117, 110, 99]⟩ : ByteArray), (⟨#[102, 110]⟩ : ByteArray))) else (if a0 = 5 then (some ((⟨#[114, 101, 97, 100]⟩ : ByteArray), (⟨#[102, 110, 109]⟩ : ByteArray))) else (if a0 = 6 then (some ((⟨#[114, 101, 109, 111, 118, 101]⟩ : ByteArray), (⟨#[112]⟩ : ByteArray))) else (if a0 = 7 then (some ((⟨#[108, 105, 110, 107]⟩ : ByteArray), (⟨#[112, 113]⟩ : ByteArray))) else (if a0 = 8 then (some ((⟨#[114, 101, 110, 97, 109, 101]⟩ : ByteArray), (⟨#[112, 113]⟩ : ByteArray))) else (if a0 = 9 then (some ((⟨#[115, 116, 97, 116]⟩ : ByteArray), (⟨#[112]⟩ : ByteArray))) else (if a0 = 10 then (some ((⟨#[108, 105, 115, 116]⟩ : ByteArray), (⟨#[112]⟩ : ByteArray))) else (if a0 = 11 then (some ((⟨#[111, 112, 101, 110]⟩ : ByteArray), (⟨#[112]⟩ : ByteArray))) else (if a0 = 12 then (some ((⟨#[99, 108, 111, 115, 101]⟩ : ByteArray), (⟨#[102]⟩ : ByteArray))) else (if a0 = 13 then (some ((⟨#[115, 121, 110, 99]⟩ : ByteArray), (⟨#[]⟩ : ByteArray))) else (if a0 = 14 then (some ((⟨#[115, 121, 109, 108, 105, 110, 107]⟩ : ByteArray), (⟨#[112, 113]⟩ : ByteArray))) else (if a0 = 15 then (some ((⟨#[114, 101, 97, 100, 108, 105, 110, 107]⟩ : ByteArray), (⟨#[112]⟩ : ByteArray))) else ((shell_device.f a0).bind fun bt101 => (some (bt101.1, bt101.2)))))))))))))))))) = some (r1, r2) := h; clear h
 by_cases c2 : a0 = 1
 ·rw [if_pos c2] at H; have c2b0 : (a0 == 1) = true := beq_iff_eq.mpr c2; have c2b1 : (a0 != 1) = false := bne_eq_false_iff_eq.mpr c2; clear c2; simp only [Option.some.injEq, Prod.mk.injEq] at H; obtain ⟨rfl, rfl⟩ := H; go_enter Tryd.func35, Tryd.ntmps35; go_wp2
  go_ret2
  exact ⟨by first | rfl | (simp; done) | (simp [*]; done), dr1⟩
 ·rw [if_neg c2] at H; have c2b0 : (a0 == 1) = false := beq_eq_false_iff_ne.mpr c2; have c2b1 : (a0 != 1) = true := bne_iff_ne.mpr c2
  by_cases c3 : a0 = 2
  ·rw [if_pos c3] at H; have c3b0 : (a0 == 2) = true := beq_iff_eq.mpr c3; have c3b1 : (a0 != 2) = false := bne_eq_false_iff_eq.mpr c3; clear c3; simp only [Option.some.injEq, Prod.mk.injEq] at H; obtain ⟨rfl, rfl⟩ := H; go_enter Tryd.func35, Tryd.ntmps35; go_wp2
   go_ret2
   exact ⟨by first | rfl | (simp; done) | (simp [*]; done), dr1⟩
  ·rw [if_neg c3] at H; have c3b0 : (a0 == 2) = false := beq_eq_false_iff_ne.mpr c3; have c3b1 : (a0 != 2) = true := bne_iff_ne.mpr c3
   by_cases c4 : a0 = 3
   ·rw [if_pos c4] at H; have c4b0 : (a0 == 3) = true := beq_iff_eq.mpr c4; have c4b1 : (a0 != 3) = false := bne_eq_false_iff_eq.mpr c4; clear c4; simp only [Option.some.injEq, Prod.mk.injEq] at H; obtain ⟨rfl, rfl⟩ := H; go_enter Tryd.func35, Tryd.ntmps35; go_wp2
    go_ret2
    exact ⟨by first | rfl | (simp; done) | (simp [*]; done), dr1⟩
   ·rw [if_neg c4] at H; have c4b0 : (a0 == 3) = false := beq_eq_false_iff_ne.mpr c4; have c4b1 : (a0 != 3) = true := bne_iff_ne.mpr c4
    by_cases c5 : a0 = 4
    ·rw [if_pos c5] at H; have c5b0 : (a0 == 4) = true := beq_iff_eq.mpr c5; have c5b1 : (a0 != 4) = false := bne_eq_false_iff_eq.mpr c5; clear c5; simp only [Option.some.injEq, Prod.mk.injEq] at H; obtain ⟨rfl, rfl⟩ := H; go_enter Tryd.func35, Tryd.ntmps35; go_wp2
     go_ret2
     exact ⟨by first | rfl | (simp; done) | (simp [*]; done), dr1⟩
    ·rw [if_neg c5] at H; have c5b0 : (a0 == 4) = false := beq_eq_false_iff_ne.mpr c5; have c5b1 : (a0 != 4) = true := bne_iff_ne.mpr c5
     by_cases c6 : a0 = 5
     ·rw [if_pos c6] at H; have c6b0 : (a0 == 5) = true := beq_iff_eq.mpr c6; have c6b1 : (a0 != 5) = false := bne_eq_false_iff_eq.mpr c6; clear c6; simp only [Option.some.injEq, Prod.mk.injEq] at H; obtain ⟨rfl, rfl⟩ := H; go_enter Tryd.func35, Tryd.ntmps35; go_wp2
      go_ret2
      exact ⟨by first | rfl | (simp; done) | (simp [*]; done), dr1⟩
     ·rw [if_neg c6] at H; have c6b0 : (a0 == 5) = false := beq_eq_false_iff_ne.mpr c6; have c6b1 : (a0 != 5) = true := bne_iff_ne.mpr c6
      by_cases c7 : a0 = 6
      ·rw [if_pos c7] at H; have c7b0 : (a0 == 6) = true := beq_iff_eq.mpr c7; have c7b1 : (a0 != 6) = false := bne_eq_false_iff_eq.mpr c7; clear c7; simp only [Option.some.injEq, Prod.mk.injEq] at H; obtain ⟨rfl, rfl⟩ := H; go_enter Tryd.func35, Tryd.ntmps35; go_wp2
       go_ret2
       exact ⟨by first | rfl | (simp; done) | (simp [*]; done), dr1⟩
      ·rw [if_neg c7] at H; have c7b0 : (a0 == 6) = false := beq_eq_false_iff_ne.mpr c7; have c7b1 : (a0 != 6) = true := bne_iff_ne.mpr c7
       by_cases c8 : a0 = 7
       ·rw [if_pos c8] at H; have c8b0 : (a0 == 7) = true := beq_iff_eq.mpr c8; have c8b1 : (a0 != 7) = false := bne_eq_false_iff_eq.mpr c8; clear c8; simp only [Option.some.injEq, Prod.mk.injEq] at H; obtain ⟨rfl, rfl⟩ := H; go_enter Tryd.func35, Tryd.ntmps35; go_wp2
        go_ret2
        exact ⟨by first | rfl | (simp; done) | (simp [*]; done), dr1⟩
       ·rw [if_neg c8] at H; have c8b0 : (a0 == 7) = false := beq_eq_false_iff_ne.mpr c8; have c8b1 : (a0 != 7) = true := bne_iff_ne.mpr c8
        by_cases c9 : a0 = 8
        ·rw [if_pos c9] at H; have c9b0 : (a0 == 8) = true := beq_iff_eq.mpr c9; have c9b1 : (a0 != 8) = false := bne_eq_false_iff_eq.mpr c9; clear c9; simp only [Option.some.injEq, Prod.mk.injEq] at H; obtain ⟨rfl, rfl⟩ := H; go_enter Tryd.func35, Tryd.ntmps35; go_wp2
         go_ret2
         exact ⟨by first | rfl | (simp; done) | (simp [*]; done), dr1⟩
        ·rw [if_neg c9] at H; have c9b0 : (a0 == 8) = false := beq_eq_false_iff_ne.mpr c9; have c9b1 : (a0 != 8) = true := bne_iff_ne.mpr c9
         by_cases c10 : a0 = 9
         ·rw [if_pos c10] at H; have c10b0 : (a0 == 9) = true := beq_iff_eq.mpr c10; have c10b1 : (a0 != 9) = false := bne_eq_false_iff_eq.mpr c10; clear c10; simp only [Option.some.injEq, Prod.mk.injEq] at H; obtain ⟨rfl, rfl⟩ := H; go_enter Tryd.func35, Tryd.ntmps35; go_wp2
          go_ret2
          exact ⟨by first | rfl | (simp; done) | (simp [*]; done), dr1⟩
         ·rw [if_neg c10] at H; have c10b0 : (a0 == 9) = false := beq_eq_false_iff_ne.mpr c10; have c10b1 : (a0 != 9) = true := bne_iff_ne.mpr c10
          by_cases c11 : a0 = 10
          ·rw [if_pos c11] at H; have c11b0 : (a0 == 10) = true := beq_iff_eq.mpr c11; have c11b1 : (a0 != 10) = false := bne_eq_false_iff_eq.mpr c11; clear c11; simp only [Option.some.injEq, Prod.mk.injEq] at H; obtain ⟨rfl, rfl⟩ := H; go_enter Tryd.func35, Tryd.ntmps35; go_wp2
           go_ret2
           exact ⟨by first | rfl | (simp; done) | (simp [*]; done), dr1⟩
          ·rw [if_neg c11] at H; have c11b0 : (a0 == 10) = false := beq_eq_false_iff_ne.mpr c11; have c11b1 : (a0 != 10) = true := bne_iff_ne.mpr c11
           by_cases c12 : a0 = 11
           ·rw [if_pos c12] at H; have c12b0 : (a0 == 11) = true := beq_iff_eq.mpr c12; have c12b1 : (a0 != 11) = false := bne_eq_false_iff_eq.mpr c12; clear c12; simp only [Option.some.injEq, Prod.mk.injEq] at H; obtain ⟨rfl, rfl⟩ := H; go_enter Tryd.func35, Tryd.ntmps35; go_wp2
            go_ret2
            exact ⟨by first | rfl | (simp; done) | (simp [*]; done), dr1⟩
           ·rw [if_neg c12] at H; have c12b0 : (a0 == 11) = false := beq_eq_false_iff_ne.mpr c12; have c12b1 : (a0 != 11) = true := bne_iff_ne.mpr c12
            by_cases c13 : a0 = 12
            ·rw [if_pos c13] at H; have c13b0 : (a0 == 12) = true := beq_iff_eq.mpr c13; have c13b1 : (a0 != 12) = false := bne_eq_false_iff_eq.mpr c13; clear c13; simp only [Option.some.injEq, Prod.mk.injEq] at H; obtain ⟨rfl, rfl⟩ := H; go_enter Tryd.func35, Tryd.ntmps35; go_wp2
             go_ret2
             exact ⟨by first | rfl | (simp; done) | (simp [*]; done), dr1⟩
            ·rw [if_neg c13] at H; have c13b0 : (a0 == 12) = false := beq_eq_false_iff_ne.mpr c13; have c13b1 : (a0 != 12) = true := bne_iff_ne.mpr c13
             by_cases c14 : a0 = 13
             ·rw [if_pos c14] at H; have c14b0 : (a0 == 13) = true := beq_iff_eq.mpr c14; have c14b1 : (a0 != 13) = false := bne_eq_false_iff_eq.mpr c14; clear c14; simp only [Option.some.injEq, Prod.mk.injEq] at H; obtain ⟨rfl, rfl⟩ := H; go_enter Tryd.func35, Tryd.ntmps35; go_wp2
              go_ret2
              exact ⟨by first | rfl | (simp; done) | (simp [*]; done), dr1⟩
             ·rw [if_neg c14] at H; have c14b0 : (a0 == 13) = false := beq_eq_false_iff_ne.mpr c14; have c14b1 : (a0 != 13) = true := bne_iff_ne.mpr c14
              by_cases c15 : a0 = 14
              ·rw [if_pos c15] at H; have c15b0 : (a0 == 14) = true := beq_iff_eq.mpr c15; have c15b1 : (a0 != 14) = false := bne_eq_false_iff_eq.mpr c15; clear c15; simp only [Option.some.injEq, Prod.mk.injEq] at H; obtain ⟨rfl, rfl⟩ := H; go_enter Tryd.func35, Tryd.ntmps35; go_wp2
               go_ret2
               exact ⟨by first | rfl | (simp; done) | (simp [*]; done), dr1⟩
              ·rw [if_neg c15] at H; have c15b0 : (a0 == 14) = false := beq_eq_false_iff_ne.mpr c15; have c15b1 : (a0 != 14) = true := bne_iff_ne.mpr c15
               by_cases c16 : a0 = 15
               ·rw [if_pos c16] at H; have c16b0 : (a0 == 15) = true := beq_iff_eq.mpr c16; have c16b1 : (a0 != 15) = false := bne_eq_false_iff_eq.mpr c16; clear c16; simp only [Option.some.injEq, Prod.mk.injEq] at H; obtain ⟨rfl, rfl⟩ := H; go_enter Tryd.func35, Tryd.ntmps35; go_wp2
                go_ret2
                exact ⟨by first | rfl | (simp; done) | (simp [*]; done), dr1⟩
               ·rw [if_neg c16] at H; have c16b0 : (a0 == 15) = false := beq_eq_false_iff_ne.mpr c16; have c16b1 : (a0 != 15) = true := bne_iff_ne.mpr c16; replace H := Option.bind_eq_some_iff.mp H; obtain ⟨⟨t101, t102⟩, A170, H⟩ := H; replace H : (some (t101, t102)) = some (r1, r2) := H; have A17 := Aside0.mk A170; clear A170; simp only [Option.some.injEq, Prod.mk.injEq] at H; obtain ⟨rfl, rfl⟩ := H; go_enter Tryd.func35, Tryd.ntmps35
                go_wp2_with (first | ((with_reducible refine gate_callee (f := 52) rfl ?_); refine goesL_ (some 36) rfl rfl Tryd.func52 (by kernel_rfl) rfl #[.int .i64 a0] rfl mt ?_; (with_reducible refine (shell_device.calls a0 t101 t102 _ A17.out).mono ?_); rintro e w' ⟨rfl, ⟨nd, rfl⟩⟩; refine ⟨_, rfl, ?_⟩))
                go_ret2
                exact ⟨by first | rfl | (simp; done) | (simp [*]; done), dr1⟩
set_option maxRecDepth 100000 in
def shell_formed.l0 : Nat → ByteArray → Int → Option (Int × ByteArray × Bool)
 | 0, _, _ => none
 | k + 1, x0, x4 => if x4 ≤ 25 then ((shell_command.f x4).bind fun bt104 => (if bt104.1.toList = x0.toList then (some (x4, bt104.2, true)) else (shell_formed.l0 k x0 (wrap64 (x4 + 1))))) else (some (0, (⟨#[]⟩ : ByteArray), false))
def shell_formed.f (k : Nat) (a0 : ByteArray) : Option (Int × ByteArray × Bool) := shell_formed.l0 k a0 1
set_option maxRecDepth 100000 in
theorem shell_formed.mono_l : ∀ k, (∀ y0 y1, LeO (shell_formed.l0 k y0 y1) (shell_formed.l0 (k + 1) y0 y1))
 | 0 => fun _ _ r h => no_ h
 | k + 1 => by
  have ih0 := shell_formed.mono_l k
  ·intro y0 y1; unfold shell_formed.l0
   repeat' first
   | (with_reducible exact ih0 _ _)
   | (with_reducible exact LeO.refl _)
   | (with_reducible exact LeO.none _)
   | (with_reducible refine LeO.ite ?_ ?_)
   | (with_reducible refine LeO.bind ?_ (fun _ => ?_))
set_option maxRecDepth 100000 in
theorem shell_formed.mono : ∀ a0 k, LeO (shell_formed.f k a0) (shell_formed.f (k + 1) a0) := by
 intro a0 k; have ih0 := shell_formed.mono_l k; unfold shell_formed.f
 repeat' first
   | (with_reducible exact ih0 _ _)
   | (with_reducible exact LeO.refl _)
   | (with_reducible exact LeO.none _)
   | (with_reducible refine LeO.ite ?_ ?_)
   | (with_reducible refine LeO.bind ?_ (fun _ => ?_))
set_option maxHeartbeats 8000000 in
set_option maxRecDepth 100000 in
theorem shell_formed.calls (k : Nat) (a0 : ByteArray) (r1 : Int) (r2 : ByteArray) (r3 : Bool) (w : World) (h : shell_formed.f k a0 = some (r1, r2, r3)) :
  Calls Tryd.prog 49 #[.string a0] w fun e w' => e = .returned (.tuple #[.agg #[.int .i64 r1, .string r2], .bool r3]) ∧ Below w.heap.size w w' := by
 have hu92 := Tryd.underlying92; have HB := Aside0.mk (Below.refl w.heap.size w); have H : (shell_formed.l0 k a0 1) = some (r1, r2, r3) := h; clear h; have H' := Aside0.mk H; clear H; go_enter Tryd.func49, Tryd.ntmps49
 go_wp2_with (first | ((with_reducible refine gate_dst (N := 2) rfl ?_); refine box_event ?hg (N := 2) ?hd (cs := #[.int .i64 0, .string (⟨#[]⟩ : ByteArray)]) (t := 92) ?hr ?_; (case hd => rfl); (case hg => rfl); (case hr => first | (go_simp; done) | (go_simp; rfl)); intro gb103 hg w2 hbox hb; have n0_ := Aside0.mk (below_step hb1 hb); have n1_ := Aside0.mk (hbox); have n2_ := Aside0.mk ((by rw [hg]; exact (below_size hb1) : w.heap.size ≤ gb103)); have n3_ := Aside0.mk ((by rw [hg]; exact (below_size hb1) : w.heap.size ≤ gb103)); clear HB; have HB := n0_; have BK103 := n1_; have GW103 := n2_; have GE103 := n3_; clear n0_ n1_ n2_ n3_; clear hb hbox hg))
 go_loopg [4] k (fun kq v4 w' => ∃ (x4_1 : Int) (x104000_1 : Int) (x104001_1 : ByteArray), v4 = .int .i64 x4_1 ∧ Aside0 (shell_formed.l0 kq a0 x4_1 = some (r1, r2, r3)) ∧ Aside0 (kq ≤ k) ∧ Aside0 (w'.heap[gb103]? = some (.cells #[.int .i64 x104000_1, .string x104001_1] 92 (0, 0))) ∧ Aside0 (Below w.heap.size w w'))
 case atStart => exact ⟨(1), (0), ((⟨#[]⟩ : ByteArray)), (by first | rfl | (simp; done) | (simp [*]; done)), H', ⟨Nat.le_refl _⟩, ⟨by (with_reducible repeat (first | apply bN | apply bD | apply bA)); exact BK103.out⟩, ⟨by repeat (first | (with_reducible first | exact HB.out | apply ba | apply bn | apply bd | apply bs GE103) | exact HB.out)⟩⟩
 case round =>
  clear H'; (try clear p2); obtain ⟨x4_1, x104000_1, x104001_1, rfl, HA, HK1, BK103, HB⟩ := hrel
  cases gk with
  | zero => exact absurd (show (none : Option (Int × ByteArray × Bool)) = some (r1, r2, r3) from HA.out) (fun h_ => nomatch h_)
  | succ k1 =>
   have H := HA.out; clear HA; simp only [shell_formed.l0] at H
   by_cases c3 : x4_1 ≤ 25
   ·rw [if_pos c3] at H; have c3b0 : decide (x4_1 ≤ 25) = true := decide_eq_true c3; clear c3; replace H := Option.bind_eq_some_iff.mp H; obtain ⟨⟨t104, t105⟩, A40, H⟩ := H; replace H : (if t104.toList = a0.toList then (some (x4_1, t105, true)) else (shell_formed.l0 k1 a0 (wrap64 (x4_1 + 1)))) = some (r1, r2, r3) := H; have A4 := Aside0.mk A40; clear A40
    by_cases c5 : t104.toList = a0.toList
    ·rw [if_pos c5] at H; have c5b0 : (t104.toList == a0.toList) = true := beq_iff_eq.mpr c5; have c5b1 : (t104.toList != a0.toList) = false := bne_eq_false_iff_eq.mpr c5; clear c5; simp only [Option.some.injEq, Prod.mk.injEq] at H; obtain ⟨rfl, rfl, rfl⟩ := H
     go_wp2_with (first | ((with_reducible refine gate_callee (f := 35) rfl ?_); refine goesL_ (some 13) rfl rfl Tryd.func35 (by kernel_rfl) rfl #[.int .i64 x4_1] rfl mt ?_; (with_reducible refine (shell_command.calls x4_1 t104 t105 _ A4.out).mono ?_); rintro e w' ⟨rfl, ⟨nd, rfl⟩⟩; refine ⟨_, rfl, ?_⟩; (try (rw [drewN_self wr]; generalize hq_ : World.drewN wr _ = wr; have n0_ : Aside0 (wr.heap[gb103]? = some (.cells #[.int .i64 x104000_1, .string x104001_1] 92 (0, 0))) := ⟨by rw [← hq_]; exact (by (with_reducible repeat (first | apply bN | apply bD | apply bA)); exact BK103.out)⟩; have n1_ : Aside0 (Below w.heap.size w wr) := ⟨by rw [← hq_]; exact (by repeat (first | (with_reducible first | exact HB.out | apply ba | apply bn | apply bd | apply bs GE103) | exact HB.out))⟩; clear BK103 HB hq_; have BK103 := n0_; have HB := n1_; clear n0_ n1_)); have hcz6_0 : wr.cell? ⟨gb103, 0, none⟩ = some (.int .i64 x104000_1) := bc BK103 0; have hcz6_1 : wr.cell? ⟨gb103, 1, none⟩ = some (.string x104001_1) := bc BK103 1; have hfz6_0 := bf BK103 0; have hfz6_1 := bf BK103 1))
     refine bodyPost_ret (results_ct rfl _ _ gb103 92 #[.int .i64 x4_1, .string t105] (0, 0) _ rfl (by (with_reducible repeat (first | apply bN | apply bD | apply bA)); refine blk_put (cs := #[.int .i64 x4_1, .string x104001_1]) ?_ 1 _ rfl; (with_reducible repeat (first | apply bN | apply bD | apply bA)); refine blk_put (cs := #[.int .i64 x104000_1, .string x104001_1]) ?_ 0 _ rfl; (with_reducible repeat (first | apply bN | apply bD | apply bA)); exact BK103.out) Tryd.underlying92 rfl (by kernel_rfl)) rfl ?_; exact ⟨er1, by repeat (first | (with_reducible first | exact HB.out | apply ba | apply bn | apply bd | apply bs GE103) | exact HB.out)⟩
    ·rw [if_neg c5] at H; have c5b0 : (t104.toList == a0.toList) = false := beq_eq_false_iff_ne.mpr c5; have c5b1 : (t104.toList != a0.toList) = true := bne_iff_ne.mpr c5; have H' := Aside0.mk H; clear H
     go_wp2_with (first | ((with_reducible refine gate_callee (f := 35) rfl ?_); refine goesL_ (some 13) rfl rfl Tryd.func35 (by kernel_rfl) rfl #[.int .i64 x4_1] rfl mt ?_; (with_reducible refine (shell_command.calls x4_1 t104 t105 _ A4.out).mono ?_); rintro e w' ⟨rfl, ⟨nd, rfl⟩⟩; refine ⟨_, rfl, ?_⟩))
     go_roundg k1
     case measure => have := HK1.out; omega
     case rel => exact ⟨(wrap64 (x4_1 + 1)), (x104000_1), (x104001_1), (by first | rfl | (simp; done) | (simp [*]; done)), H', ⟨by have := HK1.out; omega⟩, ⟨by (with_reducible repeat (first | apply bN | apply bD | apply bA)); exact BK103.out⟩, ⟨by repeat (first | (with_reducible first | exact HB.out | apply ba | apply bn | apply bd | apply bs GE103) | exact HB.out)⟩⟩
   ·rw [if_neg c3] at H; have c3b0 : decide (x4_1 ≤ 25) = false := decide_eq_false c3; clear c3; simp only [Option.some.injEq, Prod.mk.injEq] at H; obtain ⟨rfl, rfl, rfl⟩ := H; have hcz7_0 : wr.cell? ⟨gb103, 0, none⟩ = some (.int .i64 x104000_1) := bc BK103 0; have hcz7_1 : wr.cell? ⟨gb103, 1, none⟩ = some (.string x104001_1) := bc BK103 1; have hfz7_0 := bf BK103 0; have hfz7_1 := bf BK103 1; go_wp2; refine bodyPost_ret (results_ct rfl _ _ gb103 92 #[.int .i64 0, .string (⟨#[]⟩ : ByteArray)] (0, 0) _ rfl (by (with_reducible repeat (first | apply bN | apply bD | apply bA)); refine blk_put (cs := #[.int .i64 0, .string x104001_1]) ?_ 1 _ rfl; (with_reducible repeat (first | apply bN | apply bD | apply bA)); refine blk_put (cs := #[.int .i64 x104000_1, .string x104001_1]) ?_ 0 _ rfl; (with_reducible repeat (first | apply bN | apply bD | apply bA)); exact BK103.out) Tryd.underlying92 rfl (by kernel_rfl)) rfl ?_; exact ⟨er1, by repeat (first | (with_reducible first | exact HB.out | apply ba | apply bn | apply bd | apply bs GE103) | exact HB.out)⟩
set_option maxRecDepth 100000 in
def shell_bits.l0 : Nat → List Bool → List Int → Int → Int → Option (List Bool × Bool)
 | 0, _, _, _, _ => none
 | k + 1, x4, x10, x11, x12 => if x12 < x11 then (if 0 ≤ x12 then (if x12 < (x10.length : Int) then (if (rd x10 x12) = 48 then (if x4.length < 140737488355328 then (shell_bits.l0 k (x4 ++ [((rd x10 x12) == 49)]) x10 x11 (wrap64 (x12 + 1))) else (none)) else (if (rd x10 x12) = 49 then (if x4.length < 140737488355328 then (shell_bits.l0 k (x4 ++ [true]) x10 x11 (wrap64 (x12 + 1))) else (none)) else (some (([] : List Bool), false)))) else (none)) else (none)) else (some (x4, decide ((x4.length : Int) > 0)))
def shell_bits.f (k : Nat) (a0 : ByteArray) : Option (List Bool × Bool) := if a0.toList = ([45] : List UInt8) then (some (([] : List Bool), true)) else (if a0.size ≤ 9223372036854775807 then ((some (bytesOf a0 : List Int)).bind fun y106 => (shell_bits.l0 k ([] : List Bool) y106 (y106.length : Int) 0)) else (none))
set_option maxRecDepth 100000 in
theorem shell_bits.mono_l : ∀ k, (∀ y0 y1 y2 y3, LeO (shell_bits.l0 k y0 y1 y2 y3) (shell_bits.l0 (k + 1) y0 y1 y2 y3))
 | 0 => fun _ _ _ _ r h => no_ h
 | k + 1 => by
  have ih0 := shell_bits.mono_l k
  ·intro y0 y1 y2 y3; unfold shell_bits.l0
   repeat' first
   | (with_reducible exact ih0 _ _ _ _)
   | (with_reducible exact LeO.refl _)
   | (with_reducible exact LeO.none _)
   | (with_reducible refine LeO.ite ?_ ?_)
   | (with_reducible refine LeO.bind ?_ (fun _ => ?_))
set_option maxRecDepth 100000 in
theorem shell_bits.mono : ∀ a0 k, LeO (shell_bits.f k a0) (shell_bits.f (k + 1) a0) := by
 intro a0 k; have ih0 := shell_bits.mono_l k; unfold shell_bits.f
 repeat' first
   | (with_reducible exact ih0 _ _ _ _)
   | (with_reducible exact LeO.refl _)
   | (with_reducible exact LeO.none _)
   | (with_reducible refine LeO.ite ?_ ?_)
   | (with_reducible refine LeO.bind ?_ (fun _ => ?_))
set_option maxHeartbeats 8000000 in
set_option maxRecDepth 100000 in
theorem shell_bits.calls (k : Nat) (a0 : ByteArray) (r1 : List Bool) (r2 : Bool) (w : World) (h : shell_bits.f k a0 = some (r1, r2)) :
  Calls Tryd.prog 62 #[.string a0] w fun e w' => ∃ v0_ : Value, e = .returned (.tuple #[v0_, .bool r2]) ∧ Kd.R Kd.bool 4 w' w.heap.size (fun _ => True) v0_ r1 ∧ Below w.heap.size w w' := by
 have HB := Aside0.mk (Below.refl w.heap.size w); have H : (if a0.toList = ([45] : List UInt8) then (some (([] : List Bool), true)) else (if a0.size ≤ 9223372036854775807 then ((some (bytesOf a0 : List Int)).bind fun y106 => (shell_bits.l0 k ([] : List Bool) y106 (y106.length : Int) 0)) else (none))) = some (r1, r2) := h; clear h
 by_cases c2 : a0.toList = ([45] : List UInt8)
 ·rw [if_pos c2] at H; have c2b0 : (a0.toList == ([45] : List UInt8)) = true := beq_iff_eq.mpr c2; have c2b1 : (a0.toList != ([45] : List UInt8)) = false := bne_eq_false_iff_eq.mpr c2; clear c2; simp only [Option.some.injEq, Prod.mk.injEq] at H; obtain ⟨rfl, rfl⟩ := H; go_enter Tryd.func62, Tryd.ntmps62; go_wp2
  go_ret2
  exact ⟨_, er1, by first | exact Kd.R_nil _ _ _ _ _ | exact Kd.N_nil _ _ _ _ _ | exact Kd.V_nil _ _ _ _ _ | exact Kd.Q_nil _ _ _ _ _ | exact Kd.S_nil _ _ _ _ _, by repeat (first | (with_reducible first | exact HB.out | apply ba | apply bn | apply bd) | exact HB.out)⟩
 ·rw [if_neg c2] at H; have c2b0 : (a0.toList == ([45] : List UInt8)) = false := beq_eq_false_iff_ne.mpr c2; have c2b1 : (a0.toList != ([45] : List UInt8)) = true := bne_iff_ne.mpr c2
  by_cases c3 : a0.size ≤ 9223372036854775807
  ·rw [if_pos c3] at H; have c3b0 := eq_true c3; have c3b1 : decide (a0.size ≤ 9223372036854775807) = true := decide_eq_true c3; (try have c3b2 : (9223372036854775807 < a0.size) = False := eq_false (Nat.not_lt.2 c3)); clear c3; obtain ⟨y106, hy106⟩ : ∃ y_ : List Int, y_ = (bytesOf a0) := ⟨_, rfl⟩; (replace H : (shell_bits.l0 k ([] : List Bool) y106 (y106.length : Int) 0) = some (r1, r2) := by first | (rw [hy106]; with_reducible exact H) | (have H2_ := (Option.bind_some _ _).symm.trans H; rw [hy106]; with_reducible exact H2_) | (have H2_ := (Option.bind_some _ _).symm.trans H; with_reducible exact H2_) | with_reducible exact H | (rw [hy106]; exact H) | exact H); have Ny106 := Aside0.mk hy106; clear hy106; have H' := Aside0.mk H; clear H; go_enter Tryd.func62, Tryd.ntmps62
   go_wp2_with (first | ((with_reducible refine gate_dst (N := 10) rfl ?_); refine V_conv _ 5 rfl (N := 10) rfl 9 72 _ rfl a0 rfl Tryd.underlying9 Tryd.underlying72 Tryd.underlying5 of1 (Below.refl _ _) (Nat.le_refl _) ?_; intro v107 w4 ho5 hb hg_ hnew_; clear hg_ hnew_; (first | rw [← Ny106.out] at ho5 | (simp only [Int.reduceToNat] at ho5; rw [← Ny106.out] at ho5)); have n0_ := Aside0.mk (Kd.V_lower (Kd.V_mono (ok' := fun k_ => True) ho5 (fun k_ hk_ => trivial)) (below_size hb1)); have n1_ := Aside0.mk (below_step hb1 hb); clear HB; have HO108 := n0_; have HB := n1_; clear n0_ n1_; clear hb ho5; obtain ⟨Ao6, co6, eo6⟩ := Kd.V_slice HO108.out; subst eo6))
   go_loopg [4, 12] k (fun kq v4 v12 w' => ∃ (x4_1 : List Bool) (x12_1 : Int), v12 = .int .i64 x12_1 ∧ Aside0 (shell_bits.l0 kq x4_1 y106 (y106.length : Int) x12_1 = some (r1, r2)) ∧ Aside0 (kq ≤ k) ∧ Aside0 (Kd.R Kd.bool 4 w' w.heap.size (fun _ => True) v4 x4_1) ∧ Aside0 (Kd.V (Kd.int .u8) 5 w' w.heap.size (fun k_ => some k_ ≠ (v4 : Value).ownBlock) (.slice Ao6 y106.length co6) y106) ∧ Aside0 (Below w.heap.size w w'))
   case atStart => exact ⟨(([] : List Bool)), (0), (by first | rfl | (simp; done) | (simp [*]; done)), H', ⟨Nat.le_refl _⟩, ⟨by first | exact Kd.R_nil _ _ _ _ _ | exact Kd.N_nil _ _ _ _ _ | exact Kd.V_nil _ _ _ _ _ | exact Kd.Q_nil _ _ _ _ _ | exact Kd.S_nil _ _ _ _ _⟩, ⟨by (with_reducible repeat (first | apply Kd.V_alloc | apply Kd.V_drewN | apply Kd.V_drew)); exact Kd.V_mono HO108.out (fun _ hk => (by simp [Value.ownBlock]))⟩, ⟨by repeat (first | (with_reducible first | exact HB.out | apply ba | apply bn | apply bd) | exact HB.out)⟩⟩
   case round =>
    clear H'; (try clear c2); (try clear c2b0); (try clear c2b1); (try clear p2); (try clear c3); (try clear c3b0); (try clear c3b1); (try clear c3b2); (try clear c6); obtain ⟨x4_1, x12_1, rfl, HA, HK1, HO_4, HO_10, HB⟩ := hrel
    cases gk with
    | zero => exact absurd (show (none : Option (List Bool × Bool)) = some (r1, r2) from HA.out) (fun h_ => nomatch h_)
    | succ k1 =>
     have H := HA.out; clear HA; simp only [shell_bits.l0] at H
     by_cases c7 : x12_1 < (y106.length : Int)
     ·rw [if_pos c7] at H; have c7b0 : decide (x12_1 < (y106.length : Int)) = true := decide_eq_true c7; clear c7
      by_cases c8 : 0 ≤ x12_1
      ·rw [if_pos c8] at H; have c8b0 : decide (0 ≤ x12_1) = true := decide_eq_true c8; clear c8
       by_cases c9 : x12_1 < (y106.length : Int)
       ·rw [if_pos c9] at H; have c9b0 : decide (x12_1 < (y106.length : Int)) = true := decide_eq_true c9; clear c9
        by_cases c10 : (rd y106 x12_1) = 48
        ·rw [if_pos c10] at H; have c10b0 : ((rd y106 x12_1) == 48) = true := beq_iff_eq.mpr c10; have c10b1 : ((rd y106 x12_1) != 48) = false := bne_eq_false_iff_eq.mpr c10; clear c10
         by_cases c11 : x4_1.length < 140737488355328
         ·rw [if_pos c11] at H; have LMc11 := Aside0.mk c11; clear c11; obtain ⟨y110, hy110⟩ : ∃ y_ : List Bool, y_ = (x4_1 ++ [((rd y106 x12_1) == 49)]) := ⟨_, rfl⟩; (replace H : (shell_bits.l0 k1 y110 y106 (y106.length : Int) (wrap64 (x12_1 + 1))) = some (r1, r2) := by first | (rw [hy110]; with_reducible exact H) | (have H2_ := (Option.bind_some _ _).symm.trans H; rw [hy110]; with_reducible exact H2_) | (have H2_ := (Option.bind_some _ _).symm.trans H; with_reducible exact H2_) | with_reducible exact H | (rw [hy110]; exact H) | exact H); have Ny110 := Aside0.mk hy110; clear hy110; have H' := Aside0.mk H; clear H; have p109 : 0 ≤ (x12_1 : Int) := of1; have q109 : x12_1 < (y106.length : Int) := of1; obtain ⟨ad109, e109, hx109_0⟩ := Kd.at_int (Kd.V_reads' HO_10.out).2.2 x12_1 p109 q109; cases e109; replace p109 := eq_true p109; replace q109 := eq_true q109
          go_wp2_with (first | ((with_reducible refine gate_builtin (b := .append) (xs := #[.tmp 22, .tmp 25]) rfl ?_); at_builtin; refine Kd.R_append Kd.bool (w0 := w) w.heap.size rfl (.tmp 22) (.tmp 25) 29 4 (.bool false) 1 rfl Tryd.underlying29 info4 rfl (by decide) (by omega) u4 x4_1 ((rd y106 x12_1) == 49) [.bool ((rd y106 x12_1) == 49)] (fun _ => True) (fun _ => False) rfl rfl ?aP (fun _ hk => hk.elim) ?aF ?aO ?aB ?aS ?aL ?_; (case aP => exact rfl); (case aB => exact hb1); (case aF => exact (fun _ _ => trivial)); (case aO => exact (by (with_reducible repeat (first | apply Kd.R_alloc | apply Kd.R_drewN | apply Kd.R_drew)); exact HO_4.out)); (case aS => exact (below_size hb1)); (case aL => have := LMc11.out; omega); intro v111 w12 ho hb hg hat; rw [← Ny110.out] at ho; have n0_ := Aside0.mk (Kd.V_afterv (ok := (fun _ => True)) (by (with_reducible repeat (first | apply Kd.V_alloc | apply Kd.V_drewN | apply Kd.V_drew)); exact Kd.V_mono HO_10.out (fun _ hk => ⟨trivial, hk⟩)) hg hat); have n1_ := Aside0.mk (hb); have n2_ := Aside0.mk (ho); clear HO_10; clear HB; clear HO_4; have HO_10 := n0_; have HB := n1_; have HO112 := n2_; clear n0_ n1_ n2_; clear ho hb hg hat))
          go_roundg k1
          case measure => have := HK1.out; omega
          case rel => exact ⟨(y110), (wrap64 (x12_1 + 1)), (by first | rfl | (simp; done) | (simp [*]; done)), H', ⟨by have := HK1.out; omega⟩, ⟨by (with_reducible repeat (first | apply Kd.R_alloc | apply Kd.R_drewN | apply Kd.R_drew)); exact HO112.out⟩, ⟨by (with_reducible repeat (first | apply Kd.V_alloc | apply Kd.V_drewN | apply Kd.V_drew)); exact Kd.V_mono HO_10.out (fun _ hk => hk.2)⟩, ⟨by repeat (first | (with_reducible first | exact HB.out | apply ba | apply bn | apply bd) | exact HB.out)⟩⟩
         ·rw [if_neg c11] at H; exact absurd H (by simp)
        ·rw [if_neg c10] at H; have c10b0 : ((rd y106 x12_1) == 48) = false := beq_eq_false_iff_ne.mpr c10; have c10b1 : ((rd y106 x12_1) != 48) = true := bne_iff_ne.mpr c10
         by_cases c13 : (rd y106 x12_1) = 49
         ·rw [if_pos c13] at H; have c13b0 : ((rd y106 x12_1) == 49) = true := beq_iff_eq.mpr c13; have c13b1 : ((rd y106 x12_1) != 49) = false := bne_eq_false_iff_eq.mpr c13; clear c13
          by_cases c14 : x4_1.length < 140737488355328
          ·rw [if_pos c14] at H; have LMc14 := Aside0.mk c14; clear c14; obtain ⟨y113, hy113⟩ : ∃ y_ : List Bool, y_ = (x4_1 ++ [true]) := ⟨_, rfl⟩; (replace H : (shell_bits.l0 k1 y113 y106 (y106.length : Int) (wrap64 (x12_1 + 1))) = some (r1, r2) := by first | (rw [hy113]; with_reducible exact H) | (have H2_ := (Option.bind_some _ _).symm.trans H; rw [hy113]; with_reducible exact H2_) | (have H2_ := (Option.bind_some _ _).symm.trans H; with_reducible exact H2_) | with_reducible exact H | (rw [hy113]; exact H) | exact H); have Ny113 := Aside0.mk hy113; clear hy113; have H' := Aside0.mk H; clear H; have p109 : 0 ≤ (x12_1 : Int) := of1; have q109 : x12_1 < (y106.length : Int) := of1; obtain ⟨ad109, e109, hx109_0⟩ := Kd.at_int (Kd.V_reads' HO_10.out).2.2 x12_1 p109 q109; cases e109; replace p109 := eq_true p109; replace q109 := eq_true q109
           go_wp2_with (first | ((with_reducible refine gate_builtin (b := .append) (xs := #[.tmp 22, .tmp 25]) rfl ?_); at_builtin; refine Kd.R_append Kd.bool (w0 := w) w.heap.size rfl (.tmp 22) (.tmp 25) 29 4 (.bool false) 1 rfl Tryd.underlying29 info4 rfl (by decide) (by omega) u4 x4_1 true [.bool true] (fun _ => True) (fun _ => False) rfl rfl ?aP (fun _ hk => hk.elim) ?aF ?aO ?aB ?aS ?aL ?_; (case aP => exact rfl); (case aB => exact hb1); (case aF => exact (fun _ _ => trivial)); (case aO => exact (by (with_reducible repeat (first | apply Kd.R_alloc | apply Kd.R_drewN | apply Kd.R_drew)); exact HO_4.out)); (case aS => exact (below_size hb1)); (case aL => have := LMc14.out; omega); intro v114 w15 ho hb hg hat; rw [← Ny113.out] at ho; have n0_ := Aside0.mk (Kd.V_afterv (ok := (fun _ => True)) (by (with_reducible repeat (first | apply Kd.V_alloc | apply Kd.V_drewN | apply Kd.V_drew)); exact Kd.V_mono HO_10.out (fun _ hk => ⟨trivial, hk⟩)) hg hat); have n1_ := Aside0.mk (hb); have n2_ := Aside0.mk (ho); clear HO_10; clear HB; clear HO_4; have HO_10 := n0_; have HB := n1_; have HO115 := n2_; clear n0_ n1_ n2_; clear ho hb hg hat))
           go_roundg k1
           case measure => have := HK1.out; omega
           case rel => exact ⟨(y113), (wrap64 (x12_1 + 1)), (by first | rfl | (simp; done) | (simp [*]; done)), H', ⟨by have := HK1.out; omega⟩, ⟨by (with_reducible repeat (first | apply Kd.R_alloc | apply Kd.R_drewN | apply Kd.R_drew)); exact HO115.out⟩, ⟨by (with_reducible repeat (first | apply Kd.V_alloc | apply Kd.V_drewN | apply Kd.V_drew)); exact Kd.V_mono HO_10.out (fun _ hk => hk.2)⟩, ⟨by repeat (first | (with_reducible first | exact HB.out | apply ba | apply bn | apply bd) | exact HB.out)⟩⟩
          ·rw [if_neg c14] at H; exact absurd H (by simp)
         ·rw [if_neg c13] at H; have c13b0 : ((rd y106 x12_1) == 49) = false := beq_eq_false_iff_ne.mpr c13; have c13b1 : ((rd y106 x12_1) != 49) = true := bne_iff_ne.mpr c13; simp only [Option.some.injEq, Prod.mk.injEq] at H; obtain ⟨rfl, rfl⟩ := H; have p109 : 0 ≤ (x12_1 : Int) := of1; have q109 : x12_1 < (y106.length : Int) := of1; obtain ⟨ad109, e109, hx109_0⟩ := Kd.at_int (Kd.V_reads' HO_10.out).2.2 x12_1 p109 q109; cases e109; replace p109 := eq_true p109; replace q109 := eq_true q109; go_wp2
          go_ret2
          exact ⟨_, er1, by first | exact Kd.R_nil _ _ _ _ _ | exact Kd.N_nil _ _ _ _ _ | exact Kd.V_nil _ _ _ _ _ | exact Kd.Q_nil _ _ _ _ _ | exact Kd.S_nil _ _ _ _ _, by repeat (first | (with_reducible first | exact HB.out | apply ba | apply bn | apply bd) | exact HB.out)⟩
       ·rw [if_neg c9] at H; exact absurd H (by simp)
      ·rw [if_neg c8] at H; exact absurd H (by simp)
     ·rw [if_neg c7] at H; have c7b0 : decide (x12_1 < (y106.length : Int)) = false := decide_eq_false c7; clear c7; simp only [Option.some.injEq, Prod.mk.injEq] at H; obtain ⟨rfl, rfl⟩ := H; obtain ⟨Ao16, co16, eo16⟩ := Kd.R_slice HO_4.out; subst eo16; go_wp2
      go_ret2
      exact ⟨_, er1, by (with_reducible repeat (first | apply Kd.R_alloc | apply Kd.R_drewN | apply Kd.R_drew)); exact HO_4.out, by repeat (first | (with_reducible first | exact HB.out | apply ba | apply bn | apply bd) | exact HB.out)⟩
  ·rw [if_neg c3] at H; exact absurd H (by simp)
def IsS86 (w0 W : World) (g : Nat) (f0 : ByteArray) (f1 : Int) : Prop := W.heap[g]? = some (.cells #[.string f0, .int .i64 f1] 86 (0, 0)) ∧ w0.heap.size ≤ g
theorem IsS86.grown {w0 W : World} {g : Nat} {f0 : ByteArray} {f1 : Int} {W1 : World} {row : Option Nat} (h : IsS86 w0 W g f0 f1) (hw : W.grownBy W1 row) (hne : some g ≠ row) : IsS86 w0 W1 g f0 f1 := by
 obtain ⟨hb, hg⟩ := h; exact ⟨blk_grown hb hw hne, hg⟩
theorem IsS86.fresh {w0 W : World} {g : Nat} {f0 : ByteArray} {f1 : Int} (h : IsS86 w0 W g f0 f1) : ∀ k, W.heap.size ≤ k → k ≠ g := by
 obtain ⟨hb, hg⟩ := h; exact Kd.freshB hb
theorem IsS86.kept {w0 W : World} {g : Nat} {f0 : ByteArray} {f1 : Int} {W1 : World} {S : Nat → Prop} (h : IsS86 w0 W g f0 f1) (hk : Kept W W1 S) (hne : ¬ S g) : IsS86 w0 W1 g f0 f1 := by
 obtain ⟨hb, hg⟩ := h; exact ⟨blk_kept hb hk hne, hg⟩
theorem IsS86.below {w0 W : World} {g : Nat} {f0 : ByteArray} {f1 : Int} {W1 : World} (h : IsS86 w0 W g f0 f1) (hw : Below W.heap.size W W1) : IsS86 w0 W1 g f0 f1 := h.grown (grown_of_below hw none) (by simp)
theorem IsS86.alloc {w0 W : World} {g : Nat} {f0 : ByteArray} {f1 : Int} (h : IsS86 w0 W g f0 f1) (o : Obj) : IsS86 w0 (W.alloc o) g f0 f1 := h.below (below_alloc (Below.refl _ _) o)
theorem IsS86.drewN {w0 W : World} {g : Nat} {f0 : ByteArray} {f1 : Int} (h : IsS86 w0 W g f0 f1) (m : Nat) : IsS86 w0 (W.drewN m) g f0 f1 := h
theorem IsS86.drew {w0 W : World} {g : Nat} {f0 : ByteArray} {f1 : Int} (h : IsS86 w0 W g f0 f1) : IsS86 w0 W.drew g f0 f1 := h
theorem IsS86.at_ {w0 W : World} {g : Nat} {f0 : ByteArray} {f1 : Int} {w' : World} {m : Nat} (hq : W.drewN m = w') (h : IsS86 w0 W g f0 f1) : IsS86 w0 w' g f0 f1 := by subst hq; exact IsS86.drewN h m
theorem IsS86.apart {w0 W : World} {g : Nat} {f0 : ByteArray} {f1 : Int} {α : Type} {d : Kd α} {e : Nat} {base : Nat} {ok : Nat → Prop} {v : Value} {xs : List α} (h : IsS86 w0 W g f0 f1) (ho : d.R e W base ok v xs) (ht : ∀ q, q ∈ e :: d.E → q ≠ 86) : d.R e W base (fun k => ok k ∧ k ≠ g) v xs := by
 obtain ⟨hb, hg⟩ := h; exact Kd.R_types ho hb ht
theorem IsS86.own_ne {w0 W : World} {g : Nat} {f0 : ByteArray} {f1 : Int} {α : Type} {d : Kd α} {e : Nat} {base : Nat} {ok : Nat → Prop} {v : Value} {xs : List α} (h : IsS86 w0 W g f0 f1) (ho : d.R e W base ok v xs) (ht : e ≠ 86) : some g ≠ v.ownBlock := by
 obtain ⟨hb, hg⟩ := h; exact Kd.R_ne ho hb ht
theorem IsS86.lt {w0 W : World} {g : Nat} {f0 : ByteArray} {f1 : Int} (h : IsS86 w0 W g f0 f1) : g < W.heap.size := by
 obtain ⟨hb, hg⟩ := h; exact blk_lt hb
theorem IsS86.ge {w0 W : World} {g : Nat} {f0 : ByteArray} {f1 : Int} (h : IsS86 w0 W g f0 f1) : w0.heap.size ≤ g := by
 obtain ⟨hb, hg⟩ := h; exact hg
theorem IsS86.far {w0 W : World} {g : Nat} {f0 : ByteArray} {f1 : Int} {p : Addr} (h : IsS86 w0 W g f0 f1) (hne : g ≠ p.block) (u : Value) : IsS86 w0 (W.setCell p u) g f0 f1 := by
 obtain ⟨hb, hg⟩ := h; exact ⟨blk_far hb hne u, hg⟩
theorem cellS86_0 {W : World} {g : Nat} {f0 : ByteArray} {f1 : Int} (h : W.heap[g]? = some (.cells #[.string f0, .int .i64 f1] 86 (0, 0))) : W.cell? ⟨g, 0, none⟩ = some (.string f0) := (blk_cell h 0).trans rfl
theorem IsS86.set_0 {w0 W : World} {g : Nat} {f0 : ByteArray} {f1 : Int} (h : IsS86 w0 W g f0 f1) (x : ByteArray) : IsS86 w0 (W.setCell ⟨g, 0, none⟩ (.string x)) g x f1 := by
 obtain ⟨hb, hg⟩ := h; exact ⟨by simpa using blk_set hb 0 (.string x), hg⟩
theorem cellS86_1 {W : World} {g : Nat} {f0 : ByteArray} {f1 : Int} (h : W.heap[g]? = some (.cells #[.string f0, .int .i64 f1] 86 (0, 0))) : W.cell? ⟨g, 1, none⟩ = some (.int .i64 f1) := (blk_cell h 1).trans rfl
theorem IsS86.set_1 {w0 W : World} {g : Nat} {f0 : ByteArray} {f1 : Int} (h : IsS86 w0 W g f0 f1) (x : Int) : IsS86 w0 (W.setCell ⟨g, 1, none⟩ (.int .i64 x)) g f0 x := by
 obtain ⟨hb, hg⟩ := h; exact ⟨by simpa using blk_set hb 1 (.int .i64 x), hg⟩
theorem IsS86.new (w0 W : World) (f0 : ByteArray) (f1 : Int) (hB : Below w0.heap.size w0 W) : IsS86 w0 (W.alloc (.cells #[.string f0, .int .i64 f1] 86)) W.heap.size f0 f1 := ⟨by simpa using heap_alloc_new W _, hB.size⟩
def shell_line_end.f (s0_0 : ByteArray) (s0_1 : Int) : Option (Bool × ByteArray × Int) := some (decide (s0_1 ≥ (s0_0.size : Int)), s0_0, s0_1)
set_option maxHeartbeats 8000000 in
set_option maxRecDepth 100000 in
theorem shell_line_end.calls (g : Nat) (s0_0 : ByteArray) (s0_1 : Int) (r1 : Bool) (r2 : ByteArray) (r3 : Int) (w0 w : World) (hI : IsS86 w0 w g s0_0 s0_1) (hB : Below w0.heap.size w0 w) (h : shell_line_end.f s0_0 s0_1 = some (r1, r2, r3)) :
  Calls Tryd.prog 47 #[.pointer (some ⟨g, 0, none⟩)] w fun e w' => e = .returned (.bool r1) ∧ IsS86 w0 w' g r2 r3 ∧ Below w0.heap.size w0 w' ∧ KeepBut w w' g none := by
 have HI0 := Aside0.mk hI; have HK := Aside0.mk (KeepBut.refl w g none); have HL := Aside0.mk hB.size; clear hI; have HW0 := Aside0.mk hB.size; have HB := Aside0.mk hB; clear hB; have H : (some (decide (s0_1 ≥ (s0_0.size : Int)), s0_0, s0_1)) = some (r1, r2, r3) := h; clear h; simp only [Option.some.injEq, Prod.mk.injEq] at H; obtain ⟨rfl, rfl, rfl⟩ := H; obtain ⟨HGz2, hgz2⟩ := HI0.out; have hcz2_0 := cellS86_0 HGz2; have hcz2_1 := cellS86_1 HGz2; have hfz2_0 := blk_frozen HGz2 0; have hfz2_1 := blk_frozen HGz2 1; clear HGz2 hgz2; go_enter Tryd.func47, Tryd.ntmps47; go_wp2
 repeat (go_quiet (fail); try go_wp2)
 go_ret; exact ⟨er1, by repeat (first | (with_reducible first | exact HI0.out | apply IsS86.alloc | apply IsS86.drewN | apply IsS86.drew | apply IsS86.set_0 | apply IsS86.set_1) | exact HI0.out), by repeat (first | (with_reducible first | exact HB.out | apply ba | apply bn | apply bd | refine below_set ?_ (IsS86.ge HI0.out)) | exact HB.out), by repeat (first | (with_reducible first | exact HK.out | apply KeepBut.set_ | apply keep_drewN | apply keep_drew | apply keep_alloc) | exact HK.out)⟩
theorem shell_line_end.ro {s0_0 : ByteArray} {s0_1 : Int} {r0 : Bool} {r1 : ByteArray} {r2 : Int} (h : shell_line_end.f s0_0 s0_1 = some (r0, r1, r2)) : s0_0 = r1 ∧ s0_1 = r2 := by
 simp only [shell_line_end.f, Option.some.injEq, Prod.mk.injEq] at h; exact ⟨h.2.1, h.2.2⟩
def shell_blank.f (a0 : Int) : Option (Bool) := if a0 = 32 then (some true) else (some (a0 == 9))
set_option maxHeartbeats 8000000 in
set_option maxRecDepth 100000 in
theorem shell_blank.calls (a0 : Int) (r : Bool) (w : World) (h : shell_blank.f a0 = some r) :
  Calls Tryd.prog 59 #[.int .u8 a0] w fun e w' => e = .returned (.bool r) ∧ Drawn0 w w' := by
 have H : (if a0 = 32 then (some true) else (some (a0 == 9))) = some r := h; clear h
 by_cases c2 : a0 = 32
 ·rw [if_pos c2] at H; have c2b0 : (a0 == 32) = true := beq_iff_eq.mpr c2; have c2b1 : (a0 != 32) = false := bne_eq_false_iff_eq.mpr c2; clear c2; obtain rfl := Option.some.inj H; go_enter Tryd.func59, Tryd.ntmps59; go_wp2; go_ret; exact ⟨by first | rfl | (simp; done) | (simp [*]; done), dr1⟩
 ·rw [if_neg c2] at H; have c2b0 : (a0 == 32) = false := beq_eq_false_iff_ne.mpr c2; have c2b1 : (a0 != 32) = true := bne_iff_ne.mpr c2; obtain rfl := Option.some.inj H; go_enter Tryd.func59, Tryd.ntmps59; go_wp2; go_ret; exact ⟨by first | rfl | (simp; done) | (simp [*]; done), dr1⟩
end Go.Proofs.YtenigkhfldafaaaDoor.A
