/- shell.Line: a step as a line. -/
import Derived.Test.YtenigkhfldafaaaDoorY1
import Derived.Test.YtenigkhfldafaaaDoorA9
namespace Go.Proofs.YtenigkhfldafaaaDoor.A
open Go.RowKit Go.Proofs.YtenigkhfldafaaaDoorW.PrintWords Go.Proofs.YtenigkhfldafaaaDoorW.PrintLast Go.Proofs.YtenigkhfldafaaaDoorW.PrintMore
theorem Bld.len {B b : Nat} {l : List UInt8} {w : World} (h : Bld B b l w) : Calls Tryd.prog 40 #[.pointer (some ⟨b, 0, none⟩)] w fun e w' => e = .returned (.int .i64 l.length) ∧ w' = w := by
 have := Tryd.Builder_Len B b (Lib.byteCells l) w h.out
 rwa [Lib.byteCells_length] at this
def smallB (n : Int) : Bool := decide (-1000000000000000000 < n) && decide (n < 1000000000000000000)
theorem small_calls (n : Int) (w : World) : Calls Tryd.prog 36 #[.int .i64 n] w fun e w' => e = .returned (.bool (smallB n)) ∧ Drawn0 w w' := by
 unfold smallB
 have h1 : decide (n > -1000000000000000000) = decide (-1000000000000000000 < n) := rfl
 by_cases h : -1000000000000000000 < n
 ·have hd := decide_eq_true h
  go_enter Tryd.func36, Tryd.ntmps36
  go_wp2
  go_ret
  exact ⟨by simp, ⟨0, rfl⟩⟩
 ·have hd := decide_eq_false h
  go_enter Tryd.func36, Tryd.ntmps36
  go_wp2
  go_ret
  exact ⟨by simp, ⟨0, rfl⟩⟩
def contB (s : ByteArray) (c : UInt8) : Bool := decide (0 ≤ Lib.index s.data.toList [c])
theorem cont_calls (s : ByteArray) (c : UInt8) (w : World) : Calls Tryd.prog 37 #[.string s, .string ⟨#[c]⟩] w fun e w' => e = .returned (.bool (contB s c)) ∧ Drawn0 w w' :=
 strings_Contains.calls s ⟨#[c]⟩ _ w (if_pos rfl)
def wideB (a : S31) (needs : ByteArray) : Bool := (!smallB a.f1 && contB needs 102) || (!smallB a.f2 && contB needs 110) || (!smallB a.f3 && contB needs 109)
def lineL (k : Nat) (a : S31) : List UInt8 → List UInt8 → Option (ByteArray × Int)
 | [], acc => some (⟨acc.toArray⟩, 0)
 | c :: cs, acc => (shell_argument.f k a.f0 a.f1 a.f2 a.f3 a.f4 a.f5 a.f6 a.f7 c.toNat).bind fun t =>
  if t.size ≤ 100000000000000 then
   if 8000 < (acc ++ 32 :: t.toList).length then some (⟨#[]⟩, 4) else lineL k a cs (acc ++ 32 :: t.toList)
  else none
def lineF (k : Nat) (a : S31) : Option (ByteArray × Int) := (shell_command.f a.f0).bind fun b =>
 if b.1.toList = [] then some (⟨#[]⟩, 1)
 else if wideB a b.2 = true then some (⟨#[]⟩, 2)
 else if b.1.size ≤ 8000 ∧ b.2.size ≤ 8 then lineL k a b.2.toList b.1.toList else none
def shell_Line.f (k : Nat) (a0_0 a0_1 a0_2 a0_3 : Int) (a0_4 a0_5 a0_6 : ByteArray) (l0_7 : List Bool) : Option (ByteArray × Int) := lineF k ⟨a0_0, a0_1, a0_2, a0_3, a0_4, a0_5, a0_6, l0_7⟩
theorem lineL.mono (k : Nat) (a : S31) : ∀ (cs acc : List UInt8), LeO (lineL k a cs acc) (lineL (k + 1) a cs acc)
 | [], _ => LeO.refl _
 | c :: cs, acc => by
  unfold lineL
  refine LeO.bind (shell_argument.mono _ _ _ _ _ _ _ _ _ _) fun t => ?_
  split
  ·split
   ·exact LeO.refl _
   ·exact lineL.mono k a cs _
  ·exact LeO.refl _
theorem lineF.mono (k : Nat) (a : S31) : LeO (lineF k a) (lineF (k + 1) a) := by
 unfold lineF
 refine LeO.bind (LeO.refl _) fun b => ?_
 repeat' first
 | (with_reducible exact LeO.refl _)
 | (with_reducible exact lineL.mono _ _ _ _)
 | split
theorem shell_Line.mono (a0_0 a0_1 a0_2 a0_3 : Int) (a0_4 a0_5 a0_6 : ByteArray) (l0_7 : List Bool) (k : Nat) :
  LeO (shell_Line.f k a0_0 a0_1 a0_2 a0_3 a0_4 a0_5 a0_6 l0_7) (shell_Line.f (k + 1) a0_0 a0_1 a0_2 a0_3 a0_4 a0_5 a0_6 l0_7) := lineF.mono _ _
structure LineAt (a : S31) (A7 : Option Addr) (c7 : Nat) (w0 w : World) : Prop where
 box : w.heap[w0.heap.size]? = some (.cells #[Value.int .i64 a.f0, Value.int .i64 a.f1, Value.int .i64 a.f2, Value.int .i64 a.f3, Value.string a.f4, Value.string a.f5, Value.string a.f6, Value.slice A7 a.f7.length c7] 31 (0, 0))
 r0 : Kd.C Kd.bool w0 A7 a.f7.length a.f7
 g0 : Gw w0
 below : Below w0.heap.size w0 w
theorem LineAt.row {a : S31} {A7 : Option Addr} {c7 : Nat} {w0 w : World} (h : LineAt a A7 c7 w0 w) : Kd.C Kd.bool w A7 a.f7.length a.f7 := Kd.C_below h.r0 h.below
theorem LineAt.g {a : S31} {A7 : Option Addr} {c7 : Nat} {w0 w : World} (h : LineAt a A7 c7 w0 w) : Gw w := h.g0.below h.below
theorem LineAt.new {a : S31} {A7 : Option Addr} {c7 : Nat} {w : World} (hr : Kd.C Kd.bool w A7 a.f7.length a.f7) (hG : Gw w) : LineAt a A7 c7 w (w.alloc (Obj.cells #[Value.int .i64 a.f0, Value.int .i64 a.f1, Value.int .i64 a.f2, Value.int .i64 a.f3, Value.string a.f4, Value.string a.f5, Value.string a.f6, Value.slice A7 a.f7.length c7] 31)) :=
 ⟨heap_alloc_new w _, hr, hG, below_new w _⟩
theorem LineAt.step {a : S31} {A7 : Option Addr} {c7 : Nat} {w0 w w' : World} (h : LineAt a A7 c7 w0 w) (hb : Below w.heap.size w w') : LineAt a A7 c7 w0 w' :=
 ⟨blk_below h.box hb, h.r0, h.g0, h.below.trans (hb.mono h.below.size)⟩
theorem LineAt.drawn {a : S31} {A7 : Option Addr} {c7 : Nat} {w0 w w' : World} (h : LineAt a A7 c7 w0 w) (hb : Drawn0 w w') : LineAt a A7 c7 w0 w' := h.step hb.below
theorem drawnB (w : World) (o : Obj) (n : Nat) : Below w.heap.size w ((w.alloc o).drewN n) := pw_below_drewN (below_new w o) n
set_option maxHeartbeats 4000000 in
theorem line_none (a : S31) (A7 : Option Addr) (c7 : Nat) (name needs : ByteArray) (w : World)
  (hc : shell_command.f a.f0 = some (name, needs)) (hn : name.toList = []) :
  Calls Tryd.prog 18 #[(.agg #[Value.int .i64 a.f0, Value.int .i64 a.f1, Value.int .i64 a.f2, Value.int .i64 a.f3, Value.string a.f4, Value.string a.f5, Value.string a.f6, Value.slice A7 a.f7.length c7])] w fun e w' => e = .returned (.tuple #[.string ⟨#[]⟩, .int .i64 1]) ∧ Below w.heap.size w w' := by
 have hne : (name.toList == ([] : List UInt8)) = true := beq_iff_eq.2 hn
 have HC := Aside0.mk hc
 clear hc hn
 go_enter Tryd.func18, Tryd.ntmps18
 go_wp2_with (go_at_call 35; refine (shell_command.calls a.f0 _ needs _ HC.out).mono ?_; rintro e w1 ⟨rfl, ⟨⟨n1, rfl⟩⟩⟩)
 go_ret2
 exact ⟨rfl, drawnB _ _ _⟩
theorem two_ways (s c : Bool) (h : (!s && c) = false) : s = true ∨ (s = false ∧ c = false) := by cases s <;> cases c <;> simp_all
theorem one_way (s c : Bool) (h : (!s && c) = true) : s = false ∧ c = true := by cases s <;> cases c <;> simp_all
set_option maxHeartbeats 4000000 in
theorem line_wide (a : S31) (A7 : Option Addr) (c7 : Nat) (name needs : ByteArray) (w : World)
  (hc : shell_command.f a.f0 = some (name, needs)) (hn : ¬ name.toList = []) (hw : wideB a needs = true) :
  Calls Tryd.prog 18 #[(.agg #[Value.int .i64 a.f0, Value.int .i64 a.f1, Value.int .i64 a.f2, Value.int .i64 a.f3, Value.string a.f4, Value.string a.f5, Value.string a.f6, Value.slice A7 a.f7.length c7])] w fun e w' => e = .returned (.tuple #[.string ⟨#[]⟩, .int .i64 2]) ∧ Below w.heap.size w w' := by
 have hne : (name.toList == ([] : List UInt8)) = false := beq_eq_false_iff_ne.2 hn
 have HC := Aside0.mk hc
 unfold wideB at hw
 clear hc hn
 cases h1 : (!smallB a.f1 && contB needs 102) with
 | true =>
  obtain ⟨s1, c1⟩ := one_way _ _ h1
  clear h1 hw
  go_enter Tryd.func18, Tryd.ntmps18
  go_wp2_with (first | (go_at_call 35; refine (shell_command.calls a.f0 _ needs _ HC.out).mono ?_; rintro e w1 ⟨rfl, ⟨⟨n1, rfl⟩⟩⟩) | (go_at_call 36; refine (small_calls _ _).mono ?_; rintro e w1 ⟨rfl, ⟨⟨n2, rfl⟩⟩⟩) | (go_at_call 37; refine (cont_calls _ _ _).mono ?_; rintro e w1 ⟨rfl, ⟨⟨n3, rfl⟩⟩⟩))
  go_ret2
  exact ⟨rfl, drawnB _ _ _⟩
 | false =>
 rw [h1, Bool.false_or] at hw
 cases h2 : (!smallB a.f2 && contB needs 110) with
 | true =>
  obtain ⟨s2, c2⟩ := one_way _ _ h2
  clear h2 hw
  rcases two_ways _ _ h1 with s1 | ⟨s1, c1⟩
  all_goals
   clear h1
   go_enter Tryd.func18, Tryd.ntmps18
   go_wp2_with (first | (go_at_call 35; refine (shell_command.calls a.f0 _ needs _ HC.out).mono ?_; rintro e w1 ⟨rfl, ⟨⟨n1, rfl⟩⟩⟩) | (go_at_call 36; refine (small_calls _ _).mono ?_; rintro e w1 ⟨rfl, ⟨⟨n2, rfl⟩⟩⟩) | (go_at_call 37; refine (cont_calls _ _ _).mono ?_; rintro e w1 ⟨rfl, ⟨⟨n3, rfl⟩⟩⟩))
   go_ret2
   exact ⟨rfl, drawnB _ _ _⟩
 | false =>
  rw [h2, Bool.false_or] at hw
  obtain ⟨s3, c3⟩ := one_way _ _ hw
  clear hw
  rcases two_ways _ _ h1 with s1 | ⟨s1, c1⟩ <;> rcases two_ways _ _ h2 with s2 | ⟨s2, c2⟩
  all_goals
   clear h1 h2
   go_enter Tryd.func18, Tryd.ntmps18
   go_wp2_with (first | (go_at_call 35; refine (shell_command.calls a.f0 _ needs _ HC.out).mono ?_; rintro e w1 ⟨rfl, ⟨⟨n1, rfl⟩⟩⟩) | (go_at_call 36; refine (small_calls _ _).mono ?_; rintro e w1 ⟨rfl, ⟨⟨n2, rfl⟩⟩⟩) | (go_at_call 37; refine (cont_calls _ _ _).mono ?_; rintro e w1 ⟨rfl, ⟨⟨n3, rfl⟩⟩⟩))
   go_ret2
   exact ⟨rfl, drawnB _ _ _⟩
theorem wide_no {a : S31} {needs : ByteArray} (hw : wideB a needs = false) :
  (smallB a.f1 = true ∨ (smallB a.f1 = false ∧ contB needs 102 = false)) ∧ (smallB a.f2 = true ∨ (smallB a.f2 = false ∧ contB needs 110 = false)) ∧ (smallB a.f3 = true ∨ (smallB a.f3 = false ∧ contB needs 109 = false)) := by
 unfold wideB at hw
 rw [Bool.or_eq_false_iff, Bool.or_eq_false_iff] at hw
 exact ⟨two_ways _ _ hw.1.1, two_ways _ _ hw.1.2, two_ways _ _ hw.2⟩
structure LineIn (a : S31) (A7 : Option Addr) (c7 : Nat) (w0 : World) (acc : List UInt8) (w : World) : Prop where
 bld : Bld (w0.heap.size + 1) (w0.heap.size + 1) acc w
 line : LineAt a A7 c7 w0 w
 le : w0.heap.size + 1 ≤ w.heap.size
theorem LineIn.step {a : S31} {A7 : Option Addr} {c7 : Nat} {w0 w w' : World} {acc : List UInt8} (h : LineIn a A7 c7 w0 acc w) (hb : Below w.heap.size w w') : LineIn a A7 c7 w0 acc w' :=
 ⟨h.bld.below hb, h.line.step hb, Nat.le_trans h.le hb.size⟩
theorem line_first {a : S31} {A7 : Option Addr} {c7 : Nat} {w : World} (n : Nat) (name : ByteArray) (hL : LineAt a A7 c7 w (w.alloc (Obj.cells #[Value.int .i64 a.f0, Value.int .i64 a.f1, Value.int .i64 a.f2, Value.int .i64 a.f3, Value.string a.f4, Value.string a.f5, Value.string a.f6, Value.slice A7 a.f7.length c7] 31))) (hn : name.size ≤ 8000) :
  Calls Tryd.prog 38 #[.pointer (some ⟨w.heap.size + 1, 0, none⟩), .string name] (((w.alloc (Obj.cells #[Value.int .i64 a.f0, Value.int .i64 a.f1, Value.int .i64 a.f2, Value.int .i64 a.f3, Value.string a.f4, Value.string a.f5, Value.string a.f6, Value.slice A7 a.f7.length c7] 31)).drewN n).alloc (Obj.cells #[.pointer none, .slice none 0 0] 74)) fun e w' => e = .returned (.tuple #[.int .i64 name.size, .nilIface]) ∧ LineIn a A7 c7 w name.toList w' := by
 have hs : ((w.alloc (Obj.cells #[Value.int .i64 a.f0, Value.int .i64 a.f1, Value.int .i64 a.f2, Value.int .i64 a.f3, Value.string a.f4, Value.string a.f5, Value.string a.f6, Value.slice A7 a.f7.length c7] 31)).drewN n).heap.size = w.heap.size + 1 := by first | rfl | simp
 have hB := Bld.fresh ((w.alloc (Obj.cells #[Value.int .i64 a.f0, Value.int .i64 a.f1, Value.int .i64 a.f2, Value.int .i64 a.f3, Value.string a.f4, Value.string a.f5, Value.string a.f6, Value.slice A7 a.f7.length c7] 31)).drewN n)
 rw [hs] at hB
 have hL1 : LineAt a A7 c7 w (((w.alloc (Obj.cells #[Value.int .i64 a.f0, Value.int .i64 a.f1, Value.int .i64 a.f2, Value.int .i64 a.f3, Value.string a.f4, Value.string a.f5, Value.string a.f6, Value.slice A7 a.f7.length c7] 31)).drewN n).alloc (Obj.cells #[.pointer none, .slice none 0 0] 74)) := hL.step ((pw_below_drewN (Below.refl _ _) n).alloc (by first | exact Nat.le_refl _ | simp) _)
 have hz : w.heap.size + 1 ≤ (((w.alloc (Obj.cells #[Value.int .i64 a.f0, Value.int .i64 a.f1, Value.int .i64 a.f2, Value.int .i64 a.f3, Value.string a.f4, Value.string a.f5, Value.string a.f6, Value.slice A7 a.f7.length c7] 31)).drewN n).alloc (Obj.cells #[.pointer none, .slice none 0 0] 74)).heap.size := by have := (below_new ((w.alloc (Obj.cells #[Value.int .i64 a.f0, Value.int .i64 a.f1, Value.int .i64 a.f2, Value.int .i64 a.f3, Value.string a.f4, Value.string a.f5, Value.string a.f6, Value.slice A7 a.f7.length c7] 31)).drewN n) (Obj.cells #[.pointer none, .slice none 0 0] 74)).size; omega
 refine (Bld.write name hB (by simp; omega) hz).mono fun e w' ⟨he, hb, hw⟩ => ⟨he, hb, ?_, Nat.le_trans hz hw.size⟩
 exact ⟨(hw.block _ (Nat.lt_succ_self _)).trans hL1.box, hL1.r0, hL1.g0, hL1.below.trans (hw.mono (Nat.le_succ _))⟩
theorem line_more {a : S31} {A7 : Option Addr} {c7 : Nat} {w0 w : World} {acc : List UInt8} (h : LineIn a A7 c7 w0 acc w) (s : ByteArray) (hl : acc.length + s.size ≤ 140737488355328) :
  Calls Tryd.prog 38 #[.pointer (some ⟨w0.heap.size + 1, 0, none⟩), .string s] w fun e w' => e = .returned (.tuple #[.int .i64 s.size, .nilIface]) ∧ LineIn a A7 c7 w0 (acc ++ s.toList) w' :=
 (Bld.write s h.bld hl h.le).mono fun _ _ ⟨he, hb, hw⟩ => ⟨he, hb, ⟨(hw.block _ (Nat.lt_succ_self _)).trans h.line.box, h.line.r0, h.line.g0, h.line.below.trans (hw.mono (Nat.le_succ _))⟩, Nat.le_trans h.le hw.size⟩
theorem Bld.len_eq {B b n : Nat} {l : List UInt8} {w : World} (h : Bld B b l w) (e : l.length = n) : Calls Tryd.prog 40 #[.pointer (some ⟨b, 0, none⟩)] w fun e w' => e = .returned (.int .i64 (n : Int)) ∧ w' = w := by
 rw [← e]; exact h.len
theorem sp_toList (t : ByteArray) : ((⟨#[32]⟩ : ByteArray) ++ t).toList = 32 :: t.toList := by
 rw [ByteArray.toList_eq, ByteArray.toList_eq]
 simp [ByteArray.data_append]
set_option maxHeartbeats 8000000 in
theorem line_ok (a : S31) (A7 : Option Addr) (c7 : Nat) (name needs : ByteArray) (w : World) (k : Nat) (r : ByteArray) (er : Int) (hr : Kd.C Kd.bool w A7 a.f7.length a.f7) (hc7 : a.f7.length ≤ c7) (hG : Gw w)
  (hc : shell_command.f a.f0 = some (name, needs)) (hn : ¬ name.toList = []) (hw : wideB a needs = false) (hns : name.size ≤ 8000) (hz : needs.size ≤ 8) (hl : lineL k a needs.toList name.toList = some (r, er)) :
  Calls Tryd.prog 18 #[(.agg #[Value.int .i64 a.f0, Value.int .i64 a.f1, Value.int .i64 a.f2, Value.int .i64 a.f3, Value.string a.f4, Value.string a.f5, Value.string a.f6, Value.slice A7 a.f7.length c7])] w fun e w' => e = .returned (.tuple #[.string r, .int .i64 er]) ∧ Below w.heap.size w w' := by
 have HL := Aside0.mk (LineAt.new (c7 := c7) hr hG)
 have HC := Aside0.mk hc
 have HNS := Aside0.mk hns
 have HS0 := Aside0.mk hl
 have HN : name.toList.length ≤ 8000 := by rw [ByteArray.toList_eq, Array.length_toList]; exact hns
 have HN' := Aside0.mk HN
 have hne : (name.toList == ([] : List UInt8)) = false := beq_eq_false_iff_ne.2 hn
 have HC7 := Aside0.mk hc7
 obtain ⟨h1, h2, h3⟩ := wide_no hw
 clear hr hG hc hn hns hl HN hw hc7
 rcases h1 with s1 | ⟨s1, c1⟩ <;> rcases h2 with s2 | ⟨s2, c2⟩ <;> rcases h3 with s3 | ⟨s3, c3⟩
 all_goals
  go_enter Tryd.func18, Tryd.ntmps18
  go_wp2_with (first | (go_at_call 35; refine (shell_command.calls a.f0 _ needs _ HC.out).mono ?_; rintro e w1 ⟨rfl, ⟨⟨n1, rfl⟩⟩⟩) | (go_at_call 36; refine (small_calls _ _).mono ?_; rintro e w1 ⟨rfl, ⟨⟨n2, rfl⟩⟩⟩) | (go_at_call 37; refine (cont_calls _ _ _).mono ?_; rintro e w1 ⟨rfl, ⟨⟨n3, rfl⟩⟩⟩) | (go_at_call 38; refine (line_first _ name HL.out HNS.out).mono ?_; rintro e w1 ⟨rfl, hi⟩; have HI0 := Aside0.mk hi; clear hi))
  clear s1 s2 s3
  go_loopg [48] needs.size (fun k' p wr => ∃ (i : Nat) (acc : List UInt8), p = .int .i64 (i : Int) ∧ i ≤ needs.size ∧ k' + i = needs.size ∧ acc.length ≤ 8000 ∧ Aside0 (LineIn a A7 c7 w acc wr) ∧ Aside0 (lineL k a (needs.toList.drop i) acc = some (r, er)))
  case atStart => exact ⟨0, name.toList, rfl, Nat.zero_le _, rfl, HN'.out, HI0, ⟨HS0.out⟩⟩
  case round =>
   obtain ⟨i, acc, rfl, hi, hki, hacc, HI, HS⟩ := hrel
   by_cases hlt : i < needs.size
   ·have hdi : decide ((i : Int) < needs.size) = true := decide_eq_true (by omega)
    have hlb : i < needs.toList.length := by rw [ByteArray.toList_eq, Array.length_toList]; exact hlt
    have hat : needs.toList[i] = needs[i] := by
     have e : needs.toList = needs.data.toList := ByteArray.toList_eq needs
     simp only [e]
     rfl
    have HS1 := HS.out
    rw [List.drop_eq_getElem_cons hlb, hat] at HS1
    change (shell_argument.f k a.f0 a.f1 a.f2 a.f3 a.f4 a.f5 a.f6 a.f7 (needs[i].toNat : Int)).bind _ = _ at HS1
    cases hset : shell_argument.f k a.f0 a.f1 a.f2 a.f3 a.f4 a.f5 a.f6 a.f7 (needs[i].toNat : Int) with
    | none => rw [hset] at HS1; cases HS1
    | some t =>
    rw [hset] at HS1
    simp only [Option.bind_some] at HS1
    by_cases ht : t.size ≤ 100000000000000
    ·rw [if_pos ht] at HS1
     replace HS1 := Aside0.mk HS1
     have HSET := Aside0.mk hset
     have HT := Aside0.mk ht
     have HA := Aside0.mk hacc
     have hsz1 : 1 + t.size ≤ 9223372036854775807 := by omega
     have hsz2 : (⟨#[32]⟩ : ByteArray).size + t.size ≤ 9223372036854775807 := hsz1
     obtain ⟨M, hM⟩ : ∃ M, M = (acc ++ 32 :: t.toList).length := ⟨_, rfl⟩
     have HLEN : Aside0 ((acc ++ ((⟨#[32]⟩ : ByteArray) ++ t).toList).length = M) := ⟨by rw [sp_toList]; exact hM.symm⟩
     replace hM := Aside0.mk hM
     clear hset hat ht hacc
     have q0 := (blk_cell HI.out.line.box 0).trans (rfl : _ = some (Value.int .i64 a.f0))
     have q1 := (blk_cell HI.out.line.box 1).trans (rfl : _ = some (Value.int .i64 a.f1))
     have q2 := (blk_cell HI.out.line.box 2).trans (rfl : _ = some (Value.int .i64 a.f2))
     have q3 := (blk_cell HI.out.line.box 3).trans (rfl : _ = some (Value.int .i64 a.f3))
     have q4 := (blk_cell HI.out.line.box 4).trans (rfl : _ = some (Value.string a.f4))
     have q5 := (blk_cell HI.out.line.box 5).trans (rfl : _ = some (Value.string a.f5))
     have q6 := (blk_cell HI.out.line.box 6).trans (rfl : _ = some (Value.string a.f6))
     have q7 := (blk_cell HI.out.line.box 7).trans (rfl : _ = some (Value.slice A7 a.f7.length c7))
     by_cases h8 : 8000 < M
     ·have HS2 := HS1.out
      rw [if_pos (by have := hM.out; omega)] at HS2
      injection HS2 with HS2
      injection HS2 with e1 e2
      subst e1
      subst e2
      clear HS1
      have hd8 : decide ((8000 : Int) < (M : Int)) = true := decide_eq_true (by omega)
      have hd8' : decide ((M : Int) > 8000) = true := decide_eq_true (by omega)
      go_wp2
      go_region_with (first | (go_at_call 39; refine (shell_argument.calls k a.f0 a.f1 a.f2 a.f3 a.f4 a.f5 a.f6 A7 c7 a.f7 (needs[i].toNat : Int) t _ (HI.out.step ((Below.refl _ _).drew)).line.g (HI.out.step ((Below.refl _ _).drew)).line.row HC7.out HSET.out).mono ?_; rintro e w2 ⟨rfl, hb⟩; have HI2 := Aside0.mk ((HI.out.step ((Below.refl _ _).drew)).step hb); clear hb) | (go_at_call 38; refine (line_more HI2.out ((⟨#[32]⟩ : ByteArray) ++ t) (by have := HT.out; have := HA.out; have e_ : ((⟨#[32]⟩ : ByteArray) ++ t).size = 1 + t.size := (by rw [ByteArray.size_append]; rfl); omega)).mono ?_; rintro e w3 ⟨rfl, hi3⟩; have HI3 := Aside0.mk hi3; clear hi3))
      all_goals
       go_wp2_with (go_at_call 40; refine (Bld.len_eq HI3.out.bld HLEN.out).mono ?_; rintro e w4 ⟨rfl, rfl⟩)
       go_ret2
       exact ⟨rfl, HI3.out.line.below⟩
     ·have HS2 := HS1.out
      rw [if_neg (by have := hM.out; omega)] at HS2
      replace HS2 := Aside0.mk HS2
      clear HS1
      have hd8 : decide ((8000 : Int) < (M : Int)) = false := decide_eq_false (by omega)
      have hd8' : decide ((M : Int) > 8000) = false := decide_eq_false (by omega)
      go_wp2
      go_region_with (first | (go_at_call 39; refine (shell_argument.calls k a.f0 a.f1 a.f2 a.f3 a.f4 a.f5 a.f6 A7 c7 a.f7 (needs[i].toNat : Int) t _ (HI.out.step ((Below.refl _ _).drew)).line.g (HI.out.step ((Below.refl _ _).drew)).line.row HC7.out HSET.out).mono ?_; rintro e w2 ⟨rfl, hb⟩; have HI2 := Aside0.mk ((HI.out.step ((Below.refl _ _).drew)).step hb); clear hb) | (go_at_call 38; refine (line_more HI2.out ((⟨#[32]⟩ : ByteArray) ++ t) (by have := HT.out; have := HA.out; have e_ : ((⟨#[32]⟩ : ByteArray) ++ t).size = 1 + t.size := (by rw [ByteArray.size_append]; rfl); omega)).mono ?_; rintro e w3 ⟨rfl, hi3⟩; have HI3 := Aside0.mk hi3; clear hi3))
      all_goals
       go_wp2_with (go_at_call 40; refine (Bld.len_eq HI3.out.bld HLEN.out).mono ?_; rintro e w4 ⟨rfl, rfl⟩)
       cases gk with
       | zero => omega
       | succ gk =>
        go_roundg gk
        case measure => omega
        case rel => exact ⟨i + 1, _, rfl, by omega, by omega, by have := HLEN.out; omega, HI3, ⟨by rw [sp_toList]; exact HS2.out⟩⟩
    ·rw [if_neg ht] at HS1; cases HS1
   ·obtain rfl : i = needs.size := by omega
    have hdi : decide ((needs.size : Int) < needs.size) = false := decide_eq_false (by omega)
    have HS1 := HS.out
    rw [List.drop_eq_nil_of_le (by rw [ByteArray.toList_eq, Array.length_toList]; exact Nat.le_refl _)] at HS1
    injection HS1 with HS1
    injection HS1 with e1 e2
    subst e1
    subst e2
    go_wp2_with (go_at_call 41; refine (Bld.string HI.out.bld HI.out.le).mono ?_; rintro e w2 ⟨rfl, hb⟩)
    go_ret2
    exact ⟨rfl, HI.out.line.below.trans (hb.mono (Nat.le_succ _))⟩
theorem shell_Line.calls (k : Nat) (a0_0 a0_1 a0_2 a0_3 : Int) (a0_4 a0_5 a0_6 : ByteArray) (A0_7 : Option Addr) (c0_7 : Nat) (l0_7 : List Bool) (r1 : ByteArray) (r2 : Int) (w : World) (hG : Gw w)
  (hr0_7 : Kd.C Kd.bool w A0_7 l0_7.length l0_7) (hc0_7 : l0_7.length ≤ c0_7) (h : shell_Line.f k a0_0 a0_1 a0_2 a0_3 a0_4 a0_5 a0_6 l0_7 = some (r1, r2)) :
  Calls Tryd.prog 18 #[.agg #[.int .i64 a0_0, .int .i64 a0_1, .int .i64 a0_2, .int .i64 a0_3, .string a0_4, .string a0_5, .string a0_6, .slice A0_7 l0_7.length c0_7]] w fun e w' => e = .returned (.tuple #[.string r1, .int .i64 r2]) ∧ Below w.heap.size w w' := by
 have h' : lineF k ⟨a0_0, a0_1, a0_2, a0_3, a0_4, a0_5, a0_6, l0_7⟩ = some (r1, r2) := h
 unfold lineF at h'
 cases hc : shell_command.f a0_0 with
 | none => rw [hc] at h'; cases h'
 | some b =>
 obtain ⟨name, needs⟩ := b
 rw [hc] at h'
 simp only [Option.bind_some] at h'
 split at h'
 case isTrue hn =>
  injection h' with h'
  injection h' with e1 e2
  subst e1
  subst e2
  exact line_none ⟨a0_0, a0_1, a0_2, a0_3, a0_4, a0_5, a0_6, l0_7⟩ A0_7 c0_7 name needs w hc hn
 case isFalse hn =>
 split at h'
 case isTrue hw =>
  injection h' with h'
  injection h' with e1 e2
  subst e1
  subst e2
  exact line_wide ⟨a0_0, a0_1, a0_2, a0_3, a0_4, a0_5, a0_6, l0_7⟩ A0_7 c0_7 name needs w hc hn hw
 case isFalse hw =>
 split at h'
 case isFalse => cases h'
 case isTrue hz =>
 exact line_ok ⟨a0_0, a0_1, a0_2, a0_3, a0_4, a0_5, a0_6, l0_7⟩ A0_7 c0_7 name needs w k r1 r2 hr0_7 hc0_7 hG hc hn (Bool.eq_false_iff.2 hw) hz.1 hz.2 h'
end Go.Proofs.YtenigkhfldafaaaDoor.A
