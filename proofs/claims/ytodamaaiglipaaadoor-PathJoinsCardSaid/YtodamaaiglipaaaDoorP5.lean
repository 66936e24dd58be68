/- The plain law of the greatest lengths. -/
import Derived.Test.YtodamaaiglipaaaDoorP4
namespace Go.Proofs.YtodamaaiglipaaaDoor.A
open Go.RowKit Go.Proofs.YtodamaaiglipaaaDoorW.PrintWords

def chunk : List UInt8 := [47, 97, 97, 97, 97, 97, 97, 97, 97, 97, 97, 97, 97, 97, 97, 97, 97, 97, 97, 97]
def tail15 : List UInt8 := [47, 97, 97, 97, 97, 97, 97, 97, 97, 97, 97, 97, 97, 97, 97]
def long : Nat → List UInt8
  | 0 => []
  | n + 1 => long n ++ chunk
theorem long_length : ∀ n, (long n).length = 20 * n
  | 0 => rfl
  | n + 1 => by rw [long, List.length_append, long_length n]; show 20 * n + 20 = _; omega
theorem whole_ok : (splitE (long 12 ++ tail15)).2 = 0 := by decide +kernel
theorem whole_long : (splitE ((long 12 ++ tail15) ++ [97])).2 = 4 := by decide +kernel
theorem name20 : path_Name.f (⟨#[97, 97, 97, 97, 97, 97, 97, 97, 97, 97, 97, 97, 97, 97, 97, 97, 97, 97, 97, 97]⟩ : ByteArray) = some 4 := by
  rw [path_Name_eq]
  rw [show (⟨#[97, 97, 97, 97, 97, 97, 97, 97, 97, 97, 97, 97, 97, 97, 97, 97, 97, 97, 97, 97]⟩ : ByteArray).toList = [97, 97, 97, 97, 97, 97, 97, 97, 97, 97, 97, 97, 97, 97, 97, 97, 97, 97, 97, 97] from ByteArray.toList_mk [97, 97, 97, 97, 97, 97, 97, 97, 97, 97, 97, 97, 97, 97, 97, 97, 97, 97, 97, 97]]
  decide +kernel

theorem B_append (a b : List UInt8) : B a ++ B b = B (a ++ b) := by
  apply list_inj
  rw [list_append, B_list, B_list, B_list]
set_option maxRecDepth 100000 in
theorem bounds_l1_end (x7 : ByteArray) (x8 : Int) (h : path_Name.f x7 = some x8) : Ev (fun k => grapnellaw10_PathBounds.l1 k x7 x8 (B (long 12))) true := by
  have hz : (B (long 12)).size = 240 := by rw [B_size, long_length]
  have e1 : B (long 12) ++ (⟨#[47, 97, 97, 97, 97, 97, 97, 97, 97, 97, 97, 97, 97, 97, 97]⟩ : ByteArray) = B (long 12 ++ tail15) := by
    exact B_append (long 12) tail15
  have hz1 : (B (long 12 ++ tail15)).size = 255 := by rw [B_size, List.length_append, long_length]; decide
  have e2 : B (long 12 ++ tail15) ++ (⟨#[97]⟩ : ByteArray) = B ((long 12 ++ tail15) ++ [97]) := B_append (long 12 ++ tail15) [97]
  refine Ev.step (f := fun k => (path_Split.f k (B (long 12 ++ tail15))).bind fun b => (path_Split.f k (B ((long 12 ++ tail15) ++ [97]))).bind fun c => (if b.2 = 0 then (if c.2 = 4 then (grapnellaw10_awake.f k).bind fun t => some t else some false) else some false)) (fun k => ?_) ?_
  · simp only [grapnellaw10_PathBounds.l1]
    rw [if_neg (by omega), if_pos (by omega), e1]
    congr 1
    funext b
    rw [if_pos (by omega), e2]
    congr 1
    funext c
    rw [h, name20, Option.bind_some, if_pos rfl, Option.bind_some, if_pos rfl, if_pos (by omega)]
  · refine Ev.bind (path_Split_eq _) ?_
    refine Ev.bind (path_Split_eq _) ?_
    simp only [B_list, whole_ok, whole_long, if_true]
    exact awake_bind
theorem bounds_l1 (x7 : ByteArray) (x8 : Int) (h : path_Name.f x7 = some x8) (d : Nat) : ∀ n, n + d = 12 → Ev (fun k => grapnellaw10_PathBounds.l1 k x7 x8 (B (long n))) true := by
  induction d with
  | zero => intro n hn; obtain rfl : n = 12 := by omega
            exact bounds_l1_end x7 x8 h
  | succ d ih =>
    intro n hn
    have hz : (B (long n)).size = 20 * n := by rw [B_size, long_length]
    have e : B (long n) ++ (⟨#[47, 97, 97, 97, 97, 97, 97, 97, 97, 97, 97, 97, 97, 97, 97, 97, 97, 97, 97, 97]⟩ : ByteArray) = B (long (n + 1)) := by
      exact B_append (long n) chunk
    refine Ev.step (fun k => ?_) (ih (n + 1) (by omega))
    simp only [grapnellaw10_PathBounds.l1]
    rw [if_pos (by omega), if_pos (by omega), e]
theorem bounds_j3 (x7 : ByteArray) (x8 : Int) (h : path_Name.f x7 = some x8) : Ev (fun k => grapnellaw10_PathBounds.j3 k x7 x8) true :=
  Ev.step (fun k => by simp only [grapnellaw10_PathBounds.j3]; rfl) (bounds_l1 x7 x8 h 12 0 rfl)
theorem bounds_j2 (x7 : ByteArray) (b : Bool) (h : path_Name.f x7 = some (if b = true then 40 else 0)) : Ev (fun k => grapnellaw10_PathBounds.j2 k x7 0 b) true := by
  cases b
  · exact Ev.step (fun k => by simp only [grapnellaw10_PathBounds.j2]; rw [if_neg (by simp)]) (bounds_j3 x7 0 h)
  · exact Ev.step (fun k => by simp only [grapnellaw10_PathBounds.j2]; rw [if_pos trivial]) (bounds_j3 x7 40 h)

theorem nums_list (c : Int) (n : Nat) : (strOfNums (List.replicate n c)).toList = List.replicate n (UInt8.ofNat c.toNat) := by
  rw [ByteArray.toList_eq, strOfNums_data, List.map_replicate]
theorem name_of (c : UInt8) (hc : nameByte c = true) (n : Nat) (hn : n ≤ 19) : nameE (List.replicate n c) = if n = 0 ∨ List.replicate n c = [46] ∨ List.replicate n c = [46, 46] then 40 else 0 := by
  unfold nameE
  rw [if_neg (by rw [List.length_replicate]; omega)]
  have h1 : List.replicate n c = [] ↔ n = 0 := by simp
  by_cases h : n = 0 ∨ List.replicate n c = [46] ∨ List.replicate n c = [46, 46]
  · rw [if_pos h, if_pos (by rwa [h1])]
  · rw [if_neg h, if_neg (by rwa [h1]), if_pos]
    rw [List.all_eq_true]
    intro x hx
    rw [(List.mem_replicate.1 hx).2]
    exact hc

theorem bounds_l0 (c : Int) (h0 : 33 ≤ c) (h1 : c ≤ 126) (h2 : ¬ c = 47) (m : Nat) (hm : m ≤ 19) (d : Nat) : ∀ n : Nat, n + d = m →
    Ev (fun k => grapnellaw10_PathBounds.l0 k c m (List.replicate n c ++ List.replicate (m - n) 0) n) true := by
  have hb : nameByte (UInt8.ofNat c.toNat) = true := by
    have e : (UInt8.ofNat c.toNat).toNat = c.toNat := by rw [UInt8.toNat_ofNat']; omega
    unfold nameByte
    rw [e]
    simp
    omega
  induction d with
  | zero =>
    intro n hn
    obtain rfl : n = m := by omega
    rw [Nat.sub_self, List.replicate_zero, List.append_nil]
    have hl := nums_list c n
    have hf := path_Name_eq (strOfNums (List.replicate n c))
    rw [hl, name_of _ hb n hm] at hf
    by_cases hz : n = 0
    · refine Ev.step (f := fun k => grapnellaw10_PathBounds.j2 k (strOfNums (List.replicate n c)) 0 true) (fun k => ?_) (bounds_j2 _ true (by rw [hf, if_pos (.inl hz)]; rfl))
      simp only [grapnellaw10_PathBounds.l0]
      rw [if_neg (by omega), if_pos (by omega)]
    · by_cases hd : List.replicate n (UInt8.ofNat c.toNat) = [46]
      · refine Ev.step (f := fun k => grapnellaw10_PathBounds.j2 k (strOfNums (List.replicate n c)) 0 true) (fun k => ?_) (bounds_j2 _ true (by rw [hf, if_pos (.inr (.inl hd))]; rfl))
        simp only [grapnellaw10_PathBounds.l0]
        rw [if_neg (by omega), if_neg (by omega), if_pos (by rw [hl, hd])]
      · refine Ev.step (f := fun k => grapnellaw10_PathBounds.j2 k (strOfNums (List.replicate n c)) 0 ((strOfNums (List.replicate n c)).toList == [46, 46])) (fun k => ?_) (bounds_j2 _ _ ?_)
        · simp only [grapnellaw10_PathBounds.l0]
          rw [if_neg (by omega), if_neg (by omega), if_neg (by rw [hl]; exact hd)]
        · rw [hf, hl]
          by_cases h3 : List.replicate n (UInt8.ofNat c.toNat) = [46, 46]
          · rw [if_pos (.inr (.inr h3)), h3]; rfl
          · rw [if_neg (fun a => a.elim hz (fun a => a.elim hd h3)), if_neg (by simpa using h3)]
  | succ d ih =>
    intro n hn
    have hset : (List.replicate n c ++ List.replicate (m - n) (0 : Int)).set (n : Int).toNat c = List.replicate (n + 1) c ++ List.replicate (m - (n + 1)) 0 := by
      rw [Int.toNat_natCast, List.set_append_right _ _ (by simp), List.length_replicate, Nat.sub_self]
      obtain ⟨q, hq⟩ : ∃ q, m - n = q + 1 := ⟨m - n - 1, by omega⟩
      rw [hq, show m - (n + 1) = q by omega, List.replicate_succ, List.set_cons_zero, List.replicate_succ', List.append_assoc]
      rfl
    refine Ev.step (fun k => ?_) (ih (n + 1) (by omega))
    simp only [grapnellaw10_PathBounds.l0]
    rw [if_pos (by omega), if_pos (by omega), if_pos (by simp; omega), hset, wrap_up (by omega)]

theorem bounds_law : grapnellaw10_PathBounds.Pure := by
  intro c n hc hn
  refine Ev.rounds (r := true) ?_
  unfold grapnellaw10_PathBounds.f
  have hj : Ev (fun k => grapnellaw10_PathBounds.j0 k c n true) true := Ev.step (fun k => by simp only [grapnellaw10_PathBounds.j0]; rw [if_pos trivial]) awake_bind
  by_cases h1 : c < 33
  · exact Ev.congr (fun k => by rw [if_pos h1]) hj
  by_cases h2 : c > 126
  · exact Ev.congr (fun k => by rw [if_neg h1, if_pos h2]) hj
  by_cases h3 : c = 47
  · exact Ev.congr (fun k => by rw [if_neg h1, if_neg h2, if_pos h3]) hj
  by_cases h4 : n < 0
  · exact Ev.congr (fun k => by rw [if_neg h1, if_neg h2, if_neg h3, if_pos h4]) hj
  refine Ev.congr (fun k => by rw [if_neg h1, if_neg h2, if_neg h3, if_neg h4]) ?_
  by_cases h5 : n > 19
  · rw [decide_eq_true h5]; exact hj
  · rw [decide_eq_false h5]
    obtain ⟨m, rfl⟩ := Int.eq_ofNat_of_zero_le (show 0 ≤ n by omega)
    have := bounds_l0 c (by omega) (by omega) h3 m (by omega) m 0 (by omega)
    refine Ev.step (fun k => ?_) this
    simp only [grapnellaw10_PathBounds.j0]
    rw [if_neg (by simp), if_pos (by omega), if_pos (by simp; omega)]
    simp
end Go.Proofs.YtodamaaiglipaaaDoor.A
