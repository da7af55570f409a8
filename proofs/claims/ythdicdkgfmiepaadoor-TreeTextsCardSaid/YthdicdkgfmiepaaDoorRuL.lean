/- The reference's side: gantletref6.Word, gantletref11.Forms, gantletref11.Form. -/
import Derived.Test.YthdicdkgfmiepaaDoorRuK
import Derived.Deep.CutBlock
import Derived.Deep.DeepCutAuto
namespace Go.Proofs.YthdicdkgfmiepaaDoor
open Go.RowKit

set_option maxRecDepth 100000 in
set_option maxHeartbeats 1000000 in
theorem refWord_any (k : Nat) (h1 : 1 ≤ k) (h2 : k ≤ 36) (w : World) :
    Calls Tryd.prog 40 #[.int .i64 k] w fun e w' => e = .returned (.string ⟨(opWords.getD (k - 1) []).toArray⟩) ∧ w.alloc (.cells (strCells opWords).toArray 9) = w' := by
  have hc := (BlkIs.fresh w 9 (strCells opWords).toArray).cell (k - 1)
  rw [opWords_at (k - 1) (by omega)] at hc
  obtain ⟨x, hx⟩ : ∃ x, Hid (opWords.getD (k - 1) [] = x) := ⟨_, Lib.hid rfl⟩
  rw [hx.out] at hc ⊢
  simp only [strCells, opWords, List.map_cons, List.map_nil] at hc
  have hk0 : (0 : Int) ≤ (k : Int) - 1 := by omega
  go_enter Tryd.func40, Tryd.ntmps40
  go_wp2_with fail
  go_ret
  exact ⟨rfl, rfl⟩

def refTo (f : Int → List UInt8 → List Rule) (a n : Nat) : List Rule := (List.range n).flatMap fun j => f ((a + j : Nat)) (opWords.getD (a + j - 1) [])

theorem refTo_succ (f : Int → List UInt8 → List Rule) (a k : Nat) (h : a ≤ k) : refTo f a (k + 1 - a) = refTo f a (k - a) ++ f k (opWords.getD (k - 1) []) := by
  have e : k + 1 - a = (k - a) + 1 := by omega
  rw [e]
  unfold refTo
  rw [List.range_succ, List.flatMap_append]
  simp only [List.flatMap_cons, List.flatMap_nil, List.append_nil]
  have e2 : a + (k - a) = k := by omega
  rw [e2]

theorem refTo_len (f : Int → List UInt8 → List Rule) (m : Nat) (hf : ∀ n s, (f n s).length = m) (a n : Nat) : (refTo f a n).length = m * n := by
  unfold refTo
  induction n with
  | zero => simp
  | succ n ih => rw [List.range_succ, List.flatMap_append, List.length_append, ih]; simp [hf, Nat.mul_add]

theorem BlkIs.fresh2 {w : World} {t : TypeId} {cs : Array Value} {g : Nat} (hg : g = w.heap.size) : BlkIs (w.alloc (.cells cs t)) g t cs := by
  subst hg; exact BlkIs.fresh w t cs

theorem kids2_blk {w : World} {ok : Nat → Prop} {k m : Int} {g : Nat} (h : BlkIs w g 31 #[.int .i64 0, .int .i64 k, .slice none 0 0, .int .i64 0, .int .i64 m, .slice none 0 0]) (hok : ok g) : Rep w ok (.lst 3 (encP.encPs [pN k, pN m])) [.slice (some ⟨g, 0, none⟩) 2 2] := by
  unfold Rep
  refine ⟨some ⟨g, 0, none⟩, 2, rfl, by simp [encP.encPs], by simp [maxLen], fun _ => ⟨g, 0, _, _, _, rfl, hok, h, ?_⟩⟩
  exact Cells.row (w := w) (ok := ok) [] (cs := [.int .i64 0, .int .i64 k, .slice none 0 0, .int .i64 0, .int .i64 m, .slice none 0 0]) ⟨[_, _, _], [_, _, _], rfl, rfl, rep_leaf, ⟨[_, _, _], [], rfl, rfl, rep_leaf, rfl⟩⟩
theorem kids1_blk {w : World} {ok : Nat → Prop} {k : Int} {g : Nat} (h : BlkIs w g 31 #[.int .i64 0, .int .i64 k, .slice none 0 0]) (hok : ok g) : Rep w ok (.lst 3 (encP.encPs [pN k])) [.slice (some ⟨g, 0, none⟩) 1 1] := by
  unfold Rep
  refine ⟨some ⟨g, 0, none⟩, 1, rfl, by simp [encP.encPs], by simp [maxLen], fun _ => ⟨g, 0, _, _, _, rfl, hok, h, ?_⟩⟩
  exact Cells.row (w := w) (ok := ok) [] (cs := [.int .i64 0, .int .i64 k, .slice none 0 0]) ⟨[_, _, _], [], rfl, rfl, rep_leaf, rfl⟩

def R1 : List Rule := fewR ++ refTo twoR 12 (31 - 12)
def R2 : List Rule := R1 ++ refTo oneR 31 (37 - 31)
theorem R1_len : R1.length = 47 := by kernel_rfl
theorem R2_len : R2.length = 53 := by kernel_rfl
theorem R3_eq : R2 ++ refTo loadR 5 (12 - 5) = formsR := by kernel_rfl

set_option maxRecDepth 100000 in
set_option maxHeartbeats 4000000 in
theorem refForms_any (w : World) : Calls Tryd.prog 7 #[] w fun e w' => ∃ v, e = .returned v ∧ Own w' w.heap.size (fun g => w.heap.size ≤ g) 33 6 v (formsR.map encR) ∧ Below w.heap.size w w' := by
  go_enter Tryd.func7, Tryd.ntmps7
  go_upto_region 1 with fail
  go_cut [1] (fun v wx => Own wx w.heap.size (fun g => w.heap.size ≤ g) 33 6 v (fewR.map encR) ∧ Below w.heap.size w wx)
  case first =>
    go_wp2_with (first | (go_at_call 38; refine (refN_any _ _).mono ?_; rintro e w1 ⟨rfl, rfl⟩) | (go_at_call 39; refine (refO_any _ _ _ _ _).mono ?_; rintro e w1 ⟨rfl, rfl⟩))
    go_meet
    refine ⟨?_, ?_⟩
    · refine Own.fresh (ds := fewR.map encR) ?_ (by simp; omega) (by decide) (by simp) rfl
      refine ⟨[_, _, _, _, _, _], _, rfl, rfl, rep_rule rep_leaf, ?_⟩
      refine ⟨[_, _, _, _, _, _], _, rfl, rfl, rep_rule rep_leaf, ?_⟩
      refine ⟨[_, _, _, _, _, _], _, rfl, rfl, rep_rule rep_leaf, ?_⟩
      refine ⟨[_, _, _, _, _, _], _, rfl, rfl, rep_rule rep_leaf, ?_⟩
      refine ⟨[_, _, _, _, _, _], _, rfl, rfl, rep_rule rep_leaf, ?_⟩
      refine ⟨[_, _, _, _, _, _], _, rfl, rfl, rep_rule rep_leaf, ?_⟩
      refine ⟨[_, _, _, _, _, _], _, rfl, rfl, rep_rule rep_leaf, ?_⟩
      refine ⟨[_, _, _, _, _, _], _, rfl, rfl, rep_rule rep_leaf, ?_⟩
      refine ⟨[_, _, _, _, _, _], [], rfl, rfl, rep_rule (rep_pat ?_), rfl⟩
      refine kids2_blk ?_ ?_
      · repeat (first | exact BlkIs.fresh2 (by simp) | refine BlkIs.alloc ?_ _)
      · omega
    · repeat (first | exact Below.refl _ _ | refine Below.alloc ?_ (by (try simp); try omega) _)
  case rest =>
    obtain ⟨hown0, hb0⟩ := hcut
    go_wp2_with fail
    go_loopw [1, 2] (fun v i wr => ∃ k : Nat, 12 ≤ k ∧ k ≤ 31 ∧ i = .int .i64 k ∧ Own wr w.heap.size (fun g => w.heap.size ≤ g) 33 6 v ((fewR ++ refTo twoR 12 (k - 12)).map encR) ∧ Below w.heap.size w wr) (fun _ i _ => 31 - (intOf i).toNat)
    case atStart => exact ⟨12, by omega, by omega, rfl, by rw [show refTo twoR 12 (12 - 12) = [] from rfl, List.append_nil]; exact hown0, hb0⟩
    case round =>
      clear hown0 hb0
      obtain ⟨k, hk1, hk, rfl, hown, hb⟩ := hrel
      obtain ⟨wo, rfl⟩ : ∃ wo : World, wo = wr := ⟨_, rfl⟩
      have hbz := hb.size
      by_cases hlt : k < 31
      · have hs := Lib.hid (refTo_succ twoR 12 k hk1)
        have hl := refTo_len twoR 2 (fun _ _ => rfl) 12 (k - 12)
        have hln : ((fewR ++ refTo twoR 12 (k - 12)).map encR).length ≤ 1000 := by simp [fewR, hl]; omega
        clear hl
        obtain ⟨x, hx⟩ : ∃ x, Hid (opWords.getD (k - 1) [] = x) := ⟨_, Lib.hid rfl⟩
        have hW := fun W => refWord_any k (by omega) (by omega) W
        have hxl : x.length ≤ 1000 := by rw [← hx.out]; exact opWords_le _
        rw [hx.out] at hW hs
        go_wp2_with (first | (go_at_call 38; refine (refN_any _ _).mono ?_; rintro e w1 ⟨rfl, rfl⟩) | (go_at_call 39; refine (refO_any _ _ _ _ _).mono ?_; rintro e w1 ⟨rfl, rfl⟩) | (go_at_call 40; refine (hW _).mono ?_; rintro e w1 ⟨rfl, rfl⟩) | (at_builtin; rw [str_i]; go_must (refine append_all rfl (.tmp 34) (.tmp 50) 26 33 6 72 _ rfl Tryd.underlying26 rule_info rfl (by decide) (by decide) w.heap.size (fun g => w.heap.size ≤ g) _ _ rfl _ rfl (hown.below ?c1) wo.heap.size (fun g => wo.heap.size ≤ g) ((twoR k x).map encR) ?c2 (fun g hg => ⟨by omega, hown.ne_far hg⟩) ?c4 ?c3 ?_); (case c1 => (repeat (first | exact Below.refl _ _ | refine Below.alloc ?_ (by (try simp); try omega) _))); (case c2 => (refine Own.fresh (ds := (twoR k x).map encR) ?_ (by (try simp); try omega) (by simp [twoR, maxLen]) (by simp) rfl; refine ⟨[_, _, _, _, _, _], _, rfl, rfl, rep_rule (rep_pat ?_), ⟨[_, _, _, _, _, _], [], rfl, rfl, rep_rule (rep_pat ?_), rfl⟩⟩ <;> refine kids2_blk ?_ ?_ <;> first | omega | (repeat (first | exact BlkIs.fresh2 (by simp) | refine BlkIs.alloc ?_ _)))); (case c3 => (simp; omega)); (case c4 => (simp [twoR] at hln ⊢; omega)); intro v2 w2 hown2 hb2 hk2))
        go_roundw
        case rel => exact ⟨k + 1, by omega, by omega, by go_num, by rw [hs.out, ← List.append_assoc, List.map_append]; exact hown2, (hb.trans (show Below w.heap.size wo _ from by repeat (first | exact Below.refl _ _ | refine Below.alloc ?_ (by (try simp); try omega) _))).trans hb2⟩
        case measure => simp [intOf]; omega
      · obtain rfl : k = 31 := by omega
        rw [show ((31 : Nat) : Int) = 31 from rfl]
        have hown : Own wo w.heap.size (fun g => w.heap.size ≤ g) 33 6 _ (R1.map encR) := hown
        go_wp2_with fail
        go_loopw [1, 4] (fun v i wr => ∃ k : Nat, 31 ≤ k ∧ k ≤ 37 ∧ i = .int .i64 k ∧ Own wr w.heap.size (fun g => w.heap.size ≤ g) 33 6 v ((R1 ++ refTo oneR 31 (k - 31)).map encR) ∧ Below w.heap.size w wr) (fun _ i _ => 37 - (intOf i).toNat)
        case atStart => exact ⟨31, by omega, by omega, rfl, by rw [show refTo oneR 31 (31 - 31) = [] from rfl, List.append_nil]; exact hown, hb⟩
        case round =>
          clear hown hb hbz
          obtain ⟨k, hk1, hk, rfl, hown, hb⟩ := hrel
          obtain ⟨wo, rfl⟩ : ∃ wo : World, wo = wr := ⟨_, rfl⟩
          have hbz := hb.size
          by_cases hlt : k < 37
          · have hs := Lib.hid (refTo_succ oneR 31 k hk1)
            have hl := refTo_len oneR 1 (fun _ _ => rfl) 31 (k - 31)
            have hln : ((R1 ++ refTo oneR 31 (k - 31)).map encR).length ≤ 1000 := by rw [List.length_map, List.length_append, hl, R1_len]; omega
            clear hl
            obtain ⟨x, hx⟩ : ∃ x, Hid (opWords.getD (k - 1) [] = x) := ⟨_, Lib.hid rfl⟩
            have hW := fun W => refWord_any k (by omega) (by omega) W
            rw [hx.out] at hW hs
            go_wp2_with (first | (go_at_call 38; refine (refN_any _ _).mono ?_; rintro e w1 ⟨rfl, rfl⟩) | (go_at_call 39; refine (refO_any _ _ _ _ _).mono ?_; rintro e w1 ⟨rfl, rfl⟩) | (go_at_call 40; refine (hW _).mono ?_; rintro e w1 ⟨rfl, rfl⟩) | (at_builtin; go_must (refine append_all rfl (.tmp 56) (.tmp 64) 26 33 6 72 _ rfl Tryd.underlying26 rule_info rfl (by decide) (by decide) w.heap.size (fun g => w.heap.size ≤ g) _ _ rfl _ rfl (hown.below ?c1) wo.heap.size (fun g => wo.heap.size ≤ g) ((oneR k x).map encR) ?c2 (fun g hg => ⟨by omega, hown.ne_far hg⟩) ?c4 ?c3 ?_); (case c1 => (repeat (first | exact Below.refl _ _ | refine Below.alloc ?_ (by (try simp); try omega) _))); (case c2 => (refine Own.fresh (ds := (oneR k x).map encR) ?_ (by (try simp); try omega) (by simp [oneR, maxLen]) (by simp) rfl; refine ⟨[_, _, _, _, _, _], [], rfl, rfl, rep_rule (rep_pat ?_), rfl⟩ <;> refine kids1_blk ?_ ?_ <;> first | omega | (repeat (first | exact BlkIs.fresh2 (by simp) | refine BlkIs.alloc ?_ _)))); (case c3 => (simp; omega)); (case c4 => (simp [oneR] at hln ⊢; omega)); intro v2 w2 hown2 hb2 hk2))
            go_roundw
            case rel => exact ⟨k + 1, by omega, by omega, by go_num, by rw [hs.out, ← List.append_assoc, List.map_append]; exact hown2, (hb.trans (show Below w.heap.size wo _ from by repeat (first | exact Below.refl _ _ | refine Below.alloc ?_ (by (try simp); try omega) _))).trans hb2⟩
            case measure => simp [intOf]; omega
          · obtain rfl : k = 37 := by omega
            rw [show ((37 : Nat) : Int) = 37 from rfl]
            have hown : Own wo w.heap.size (fun g => w.heap.size ≤ g) 33 6 _ (R2.map encR) := hown
            go_wp2_with fail
            go_loopw [1, 5] (fun v i wr => ∃ k : Nat, 5 ≤ k ∧ k ≤ 12 ∧ i = .int .i64 k ∧ Own wr w.heap.size (fun g => w.heap.size ≤ g) 33 6 v ((R2 ++ refTo loadR 5 (k - 5)).map encR) ∧ Below w.heap.size w wr) (fun _ i _ => 12 - (intOf i).toNat)
            case atStart => exact ⟨5, by omega, by omega, rfl, by rw [show refTo loadR 5 (5 - 5) = [] from rfl, List.append_nil]; exact hown, hb⟩
            case round =>
              clear hown hb hbz
              obtain ⟨k, hk1, hk, rfl, hown, hb⟩ := hrel
              obtain ⟨wo, rfl⟩ : ∃ wo : World, wo = wr := ⟨_, rfl⟩
              have hbz := hb.size
              by_cases hlt : k < 12
              · have hs := Lib.hid (refTo_succ loadR 5 k hk1)
                have hl := refTo_len loadR 1 (fun _ _ => rfl) 5 (k - 5)
                have hln : ((R2 ++ refTo loadR 5 (k - 5)).map encR).length ≤ 1000 := by rw [List.length_map, List.length_append, hl, R2_len]; omega
                clear hl
                obtain ⟨x, hx⟩ : ∃ x, Hid (opWords.getD (k - 1) [] = x) := ⟨_, Lib.hid rfl⟩
                have hW := fun W => refWord_any k (by omega) (by omega) W
                rw [hx.out] at hW hs
                go_wp2_with (first | (go_at_call 38; refine (refN_any _ _).mono ?_; rintro e w1 ⟨rfl, rfl⟩) | (go_at_call 39; refine (refO_any _ _ _ _ _).mono ?_; rintro e w1 ⟨rfl, rfl⟩) | (go_at_call 40; refine (hW _).mono ?_; rintro e w1 ⟨rfl, rfl⟩) | (at_builtin; go_must (refine append_all rfl (.tmp 70) (.tmp 78) 26 33 6 72 _ rfl Tryd.underlying26 rule_info rfl (by decide) (by decide) w.heap.size (fun g => w.heap.size ≤ g) _ _ rfl _ rfl (hown.below ?c1) wo.heap.size (fun g => wo.heap.size ≤ g) ((loadR k x).map encR) ?c2 (fun g hg => ⟨by omega, hown.ne_far hg⟩) ?c4 ?c3 ?_); (case c1 => (repeat (first | exact Below.refl _ _ | refine Below.alloc ?_ (by (try simp); try omega) _))); (case c2 => (refine Own.fresh (ds := (loadR k x).map encR) ?_ (by (try simp); try omega) (by simp [loadR, maxLen]) (by simp) rfl; refine ⟨[_, _, _, _, _, _], [], rfl, rfl, rep_rule (rep_pat ?_), rfl⟩ <;> refine kids1_blk ?_ ?_ <;> first | omega | (repeat (first | exact BlkIs.fresh2 (by simp) | refine BlkIs.alloc ?_ _)))); (case c3 => (simp; omega)); (case c4 => (simp [loadR] at hln ⊢; omega)); intro v2 w2 hown2 hb2 hk2))
                go_roundw
                case rel => exact ⟨k + 1, by omega, by omega, by go_num, by rw [hs.out, ← List.append_assoc, List.map_append]; exact hown2, (hb.trans (show Below w.heap.size wo _ from by repeat (first | exact Below.refl _ _ | refine Below.alloc ?_ (by (try simp); try omega) _))).trans hb2⟩
                case measure => simp [intOf]; omega
              · obtain rfl : k = 12 := by omega
                go_wp2_with fail
                go_ret
                refine ⟨_, rfl, ?_, hb⟩
                have h3 : R2 ++ refTo loadR 5 (12 - 5) = formsR := R3_eq
                rw [h3] at hown
                exact hown

end Go.Proofs.YthdicdkgfmiepaaDoor
