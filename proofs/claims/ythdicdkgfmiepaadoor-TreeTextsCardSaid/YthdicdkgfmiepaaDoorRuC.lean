/- The rules of an op: of two, of one, of an address. -/
import Derived.Test.YthdicdkgfmiepaaDoorRuB
namespace Go.Proofs.YthdicdkgfmiepaaDoor
open Go.RowKit

def twoR (n : Int) (w : List UInt8) : List Rule := [⟨0, pO n [pN 0, pN 0], 0, w⟩, ⟨0, pO n [pN 0, pN 2], 0, w ++ [105]⟩]
def oneR (n : Int) (w : List UInt8) : List Rule := [⟨0, pO n [pN 0], 0, w⟩]
def loadR (n : Int) (w : List UInt8) : List Rule := [⟨0, pO n [pN 3], 0, w⟩]

theorem str_i (s : ByteArray) : (s ++ ⟨#[105]⟩ : ByteArray) = ⟨(s.data.toList ++ [105]).toArray⟩ := by
  apply ByteArray.ext
  rw [← Array.toList_inj]
  simp

theorem kids2 {w : World} {B : Nat} (hB : B ≤ w.heap.size) {k : Int} {m : Int} (o o' : Obj) {g : Nat} (hg : g = w.heap.size) : Rep (((w.alloc (.cells #[.int .i64 0, .int .i64 k, .slice none 0 0, .int .i64 0, .int .i64 m, .slice none 0 0] 31)).alloc o).alloc o') (fun g => B ≤ g) (.lst 3 (encP.encPs [pN k, pN m])) [.slice (some ⟨g, 0, none⟩) 2 2] := by
  refine Rep.alloc (Rep.alloc (Rep.imp (Own.rep (Own.fresh (B := B) (ok := fun g => B ≤ g) (ds := encP.encPs [pN k, pN m]) (cs := [.int .i64 0, .int .i64 k, .slice none 0 0, .int .i64 0, .int .i64 m, .slice none 0 0]) ?_ hB (by simp [encP.encPs, maxLen]) hg rfl)) (fun g hg _ => hg.elim id id)) _) _
  exact ⟨[_, _, _], [_, _, _], rfl, rfl, rep_leaf, ⟨[_, _, _], [], rfl, rfl, rep_leaf, rfl⟩⟩

theorem kids1 {w : World} {B : Nat} (hB : B ≤ w.heap.size) {k : Int} (o o' : Obj) {g : Nat} (hg : g = w.heap.size) : Rep (((w.alloc (.cells #[.int .i64 0, .int .i64 k, .slice none 0 0] 31)).alloc o).alloc o') (fun g => B ≤ g) (.lst 3 (encP.encPs [pN k])) [.slice (some ⟨g, 0, none⟩) 1 1] := by
  refine Rep.alloc (Rep.alloc (Rep.imp (Own.rep (Own.fresh (B := B) (ok := fun g => B ≤ g) (ds := encP.encPs [pN k]) (cs := [.int .i64 0, .int .i64 k, .slice none 0 0]) ?_ hB (by simp [encP.encPs, maxLen]) hg rfl)) (fun g hg _ => hg.elim id id)) _) _
  exact ⟨[_, _, _], [], rfl, rfl, rep_leaf, rfl⟩

set_option maxHeartbeats 1000000 in
theorem one_any (n : Int) (s : ByteArray) (w : World) : Calls Tryd.prog 71 #[.int .i64 n, .string s] w (Rules w.heap.size w (oneR n s.data.toList)) := by
  go_enter Tryd.func71, Tryd.ntmps71
  go_wp2_with (first | (go_at_call 69; refine (reg_any _ _ _ _ _ _).mono ?_; rintro e w1 ⟨rfl, rfl⟩) | (go_at_call 70; refine (nt_any _ _).mono ?_; rintro e w1 ⟨rfl, rfl⟩))
  go_ret
  refine ⟨_, rfl, ?_, ?_⟩
  · refine Own.fresh (ds := (oneR n s.data.toList).map encR) ?_ (by simp; omega) (by simp [oneR, maxLen]) (by simp) rfl
    exact ⟨[_, _, _, _, _, _], [], rfl, rfl, rep_rule (rep_pat (kids1 (by (try simp); try omega) _ _ (by simp))), rfl⟩
  · repeat (first | exact Below.refl _ _ | refine Below.alloc ?_ (by (try simp); try omega) _)

set_option maxHeartbeats 1000000 in
theorem load_any (n : Int) (s : ByteArray) (w : World) : Calls Tryd.prog 72 #[.int .i64 n, .string s] w (Rules w.heap.size w (loadR n s.data.toList)) := by
  go_enter Tryd.func72, Tryd.ntmps72
  go_wp2_with (first | (go_at_call 69; refine (reg_any _ _ _ _ _ _).mono ?_; rintro e w1 ⟨rfl, rfl⟩) | (go_at_call 70; refine (nt_any _ _).mono ?_; rintro e w1 ⟨rfl, rfl⟩))
  go_ret
  refine ⟨_, rfl, ?_, ?_⟩
  · refine Own.fresh (ds := (loadR n s.data.toList).map encR) ?_ (by simp; omega) (by simp [loadR, maxLen]) (by simp) rfl
    exact ⟨[_, _, _, _, _, _], [], rfl, rfl, rep_rule (rep_pat (kids1 (by (try simp); try omega) _ _ (by simp))), rfl⟩
  · repeat (first | exact Below.refl _ _ | refine Below.alloc ?_ (by (try simp); try omega) _)

set_option maxHeartbeats 1000000 in
theorem two_any (n : Int) (s : ByteArray) (hs : s.size ≤ 1000) (w : World) : Calls Tryd.prog 68 #[.int .i64 n, .string s] w (Rules w.heap.size w (twoR n s.data.toList)) := by
  go_enter Tryd.func68, Tryd.ntmps68
  go_wp2_with (first | (go_at_call 69; refine (reg_any _ _ _ _ _ _).mono ?_; rintro e w1 ⟨rfl, rfl⟩) | (go_at_call 70; refine (nt_any _ _).mono ?_; rintro e w1 ⟨rfl, rfl⟩))
  rw [str_i]
  go_ret
  refine ⟨_, rfl, ?_, ?_⟩
  · refine Own.fresh (ds := (twoR n s.data.toList).map encR) ?_ (by simp; omega) (by simp [twoR, maxLen]) (by simp) rfl
    refine ⟨[_, _, _, _, _, _], _, rfl, rfl, rep_rule (rep_pat (Rep.alloc (Rep.alloc (Rep.alloc (Rep.alloc (Rep.alloc (kids2 (by (try simp); try omega) _ _ (by simp)) _) _) _) _) _)), ⟨[_, _, _, _, _, _], [], rfl, rfl, rep_rule (rep_pat (kids2 (by (try simp); try omega) _ _ (by simp))), rfl⟩⟩
  · repeat (first | exact Below.refl _ _ | refine Below.alloc ?_ (by (try simp); try omega) _)

end Go.Proofs.YthdicdkgfmiepaaDoor
