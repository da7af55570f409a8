/- Plain: a tree's text is read as it. What TreeTexts asks besides: how many texts come in; they are copied. The law TreeTexts: its walk. (Printed by gen/gen_txj.py.) What TreeTexts' row gives besides: the library's errors. -/
import Derived.Test.YthdicdkgfmiepaaDoorMB
import Derived.Test.YthdicdkgfmiepaaDoorMC
import Derived.Test.YthdicdkgfmiepaaDoorTtD
import Derived.Test.YthdicdkgfmiepaaDoorTtY
import Derived.Test.YthdicdkgfmiepaaDoorMA
import Derived.Stood8Ties
import Derived.Plain9
namespace Go.Proofs.YthdicdkgfmiepaaDoor

/- Plain: a tree's text is read as it. -/
section
open Go.RowKit

theorem idxB_app {c : UInt8} (a r : List UInt8) (h : ∀ x ∈ a, x ≠ c) : idxB c (a ++ c :: r) = some a.length := by
  refine idxB_some (by simp) (by simp) ?_
  intro j hj hlt
  rw [List.getElem_append_left hlt]
  exact h _ (List.getElem_mem hlt)

theorem word_no (op : Int) : ∀ x ∈ wordT op, x ≠ 40 := by
  intro x hx
  unfold wordT at hx
  rw [List.getD_eq_getElem?_getD] at hx
  rcases Nat.lt_or_ge (op - 1).toNat opWords.length with h | h
  · rw [List.getElem?_eq_getElem h] at hx
    have h1 : (opWords.all fun l => l.all fun x => x != 40) = true := by kernel_rfl
    have h2 := List.all_eq_true.1 (List.all_eq_true.1 h1 _ (List.getElem_mem h)) x (by simpa using hx)
    simpa using h2
  · rw [List.getElem?_eq_none h] at hx; simp at hx
theorem word_op {op : Int} (h1 : 1 ≤ op) (h2 : op ≤ 36) : opT (wordT op) = op := by
  have h3 : ((List.range 36).all fun k => decide (opT (wordT ((k + 1 : Nat) : Int)) = ((k + 1 : Nat) : Int))) = true := by kernel_rfl
  have h4 := List.all_eq_true.1 h3 (op.toNat - 1) (by simp; omega)
  rw [decide_eq_true_eq, show ((op.toNat - 1 + 1 : Nat) : Int) = op by omega] at h4
  exact h4
theorem dec_no (n : Int) : ∀ x ∈ decT n, x ≠ 41 := by
  intro x hx
  have hd : ∀ y ∈ digs n.natAbs, y ≠ 41 := by
    intro y hy
    have := (isDg_iff y).1 (List.all_eq_true.1 (digs_all n.natAbs) y hy)
    rintro rfl
    have h41 : (41 : UInt8).toNat = 41 := rfl
    omega
  unfold decT at hx
  split at hx
  · rcases List.mem_cons.1 hx with rfl | h
    · decide
    · exact hd _ h
  · exact hd _ hx

theorem numR_dec (n : Int) (hn : I64r n) (r : List UInt8) : numR (decT n ++ 41 :: r) = some (n, (decT n).length) := by
  unfold numR
  rw [idxB_app _ _ (dec_no n)]
  simp only
  rw [List.take_left, num_dec n hn]

theorem kidsT_cons (i : Nat) (p : Pat) (l : List Pat) : kidsT i (p :: l) = sepT i ++ textT p ++ kidsT (i + 1) l := by rw [kidsT]

def Reads (f : Nat) (p : Pat) : Prop := ∀ (m : Nat) (r : List UInt8), patN p ≤ m → m < f → rdT f (textT p ++ r) m = some (p, r, m - patN p)

theorem rdKs_text {f : Nat} : ∀ (l : List Pat) (i m : Nat) (r : List UInt8), (∀ p ∈ l, Reads f p) → patsN l ≤ m → m < f → rdKs (rdT f) l.length i (kidsT i l ++ r) m = some (l, r, m - patsN l)
  | [], i, m, r, _, _, _ => by simp [rdKs, kidsT, patsN]
  | p :: l, i, m, r, h, hm, hf => by
    unfold patsN at hm
    have h1 := h p (by simp) m (kidsT (i + 1) l ++ r) (by omega) hf
    have h2 := rdKs_text l (i + 1) (m - patN p) r (fun q hq => h q (by simp [hq])) (by omega) (by omega)
    rw [List.length_cons]
    have h0 : i = 0 ∨ aheadB [44, 32] (kidsT i (p :: l) ++ r) = true := by
      by_cases hi : i = 0
      · exact .inl hi
      · right
        rw [kidsT_cons]
        unfold sepT aheadB
        rw [if_neg hi]
        simp
    have h3 : rdT f (if i = 0 then kidsT i (p :: l) ++ r else (kidsT i (p :: l) ++ r).drop 2) m = some (p, kidsT (i + 1) l ++ r, m - patN p) := by
      rw [← h1, kidsT_cons]
      unfold sepT
      by_cases hi : i = 0
      · rw [if_pos hi, if_pos hi]; simp
      · rw [if_neg hi, if_neg hi]; simp
    rw [rdKs_step h0 h3, h2]
    simp only [Option.map_some, patsN]
    rw [show m - patN p - patsN l = m - (patN p + patsN l) by omega]

theorem reads_all : ∀ p : Pat, PatWf p → treeOk p = true → ∀ f, Reads f p
  | .mk op nt ks => fun hwf hok f m r hm hf => by
    obtain ⟨f, rfl⟩ : ∃ f', f = f' + 1 := ⟨f - 1, by omega⟩
    have hkid : ∀ p ∈ ks, Reads f p := fun p hp => by
      obtain ⟨j, hj, rfl⟩ := List.getElem_of_mem hp
      exact reads_all ks[j] (hwf.kid _ (List.getElem_mem hj)) (treeOk_kid hok j hj) f
    have htop : topOk op nt ks.length = true := by rw [treeOk_eq, Bool.and_eq_true] at hok; exact hok.1
    have hnr : I64r nt := hwf.nt
    rw [patN_eq] at hm
    simp only [Pat.kids] at hm
    unfold topOk isOp at htop
    simp only [Bool.and_eq_true, Bool.or_eq_true, decide_eq_true_eq, Bool.not_eq_true'] at htop
    obtain ⟨⟨ho1, ho2⟩, har, hn0, _⟩ := htop
    have hm0 : ¬ m = 0 := by omega
    unfold rdT
    rw [if_neg hm0]
    by_cases hlf : isLeaf op = true
    · have hks : ks = [] := by
        have : arityOf op = 0 := by unfold arityOf; rw [if_pos hlf]
        rw [this] at har
        exact List.length_eq_zero_iff.1 (by omega)
      subst hks
      rw [textT_leaf hlf]
      have e1 : wordT op ++ [40] ++ decT nt ++ [41] ++ r = wordT op ++ 40 :: (decT nt ++ 41 :: r) := by simp
      rw [e1, idxB_app _ _ (word_no op)]
      simp only
      rw [List.take_left, word_op ho1 ho2, if_neg (by omega), if_pos hlf]
      have e2 : (wordT op ++ 40 :: (decT nt ++ 41 :: r)).drop ((wordT op).length + 1) = decT nt ++ 41 :: r := by
        rw [← List.drop_drop, List.drop_left]; rfl
      have e3 : (wordT op ++ 40 :: (decT nt ++ 41 :: r)).drop ((wordT op).length + 1 + ((decT nt).length + 1)) = r := by
        rw [← List.drop_drop, e2, ← List.drop_drop, List.drop_left]; rfl
      rw [e2, numR_dec nt hnr]
      simp only
      rw [e3, patN_eq]
      simp [patsN, Pat.kids]
    · have hnt : nt = 0 := by
        rcases hn0 with h | h
        · exact absurd h hlf
        · exact h
      subst hnt
      have hN : (arityOf op).toNat = ks.length := by omega
      rw [textT_node hlf]
      have e1 : wordT op ++ [40] ++ kidsT 0 ks ++ [41] ++ r = wordT op ++ 40 :: (kidsT 0 ks ++ 41 :: r) := by simp
      rw [e1, idxB_app _ _ (word_no op)]
      simp only
      rw [List.take_left, word_op ho1 ho2, if_neg (by omega), if_neg hlf]
      have e2 : (wordT op ++ 40 :: (kidsT 0 ks ++ 41 :: r)).drop ((wordT op).length + 1) = kidsT 0 ks ++ 41 :: r := by
        rw [← List.drop_drop, List.drop_left]; rfl
      rw [e2, hN, rdKs_text ks 0 (m - 1) (41 :: r) hkid (by omega) (by omega)]
      simp only
      rw [if_pos (by unfold aheadB; simp), patN_eq]
      simp only [Pat.kids, List.drop_succ_cons, List.drop_zero]
      rw [show m - 1 - patsN ks = m - (1 + patsN ks) by omega]
termination_by p => SizeOf.sizeOf p
decreasing_by
  have := List.sizeOf_lt_of_mem (List.getElem_mem hj)
  simp only [Pat.mk.sizeOf_spec]
  omega

end

/- What TreeTexts asks besides: how many texts come in; they are copied. -/
section
open Go.RowKit

def HeavyPostS (L : List Pat) (n : Nat) (w : World) (e : Ending) (w' : World) : Prop := ∃ b : Bool, e = .returned (.bool b) ∧ (b = false → (∀ t ∈ L, PatSmall t) ∧ n ≤ 6000) ∧ Below w.heap.size w w'

set_option maxHeartbeats 2000000 in
theorem heavy6s_any (L : List Pat) (S : List (List UInt8)) (A1 A2 : Option Addr) (c1 c2 : Nat) (w : World) (hwf : TAskWf L S)
    (h1 : Rep w (fun _ => True) (.lst 3 (L.map encP)) [.slice A1 L.length c1]) (h2 : Rep w (fun _ => True) (.lst 1 (S.map .str)) [.slice A2 S.length c2]) :
    Calls Tryd.prog 21 #[.agg #[.slice A1 L.length c1, .slice A2 S.length c2]] w (HeavyPostS L S.length w) := by
  obtain ⟨hL, hS, hwS⟩ := hwf
  unfold reachBytes at hL hS
  obtain ⟨n, hn⟩ : ∃ n, Hid (L.length = n) := ⟨_, Lib.hid rfl⟩
  obtain ⟨s, hs⟩ : ∃ s, Hid (S.length = s) := ⟨_, Lib.hid rfl⟩
  rw [hn.out] at hL h1 ⊢
  rw [hs.out] at hS h2 ⊢
  have H1 := Lib.hid h1
  have H2 := Lib.hid h2
  clear h1 h2
  go_enter Tryd.func21, Tryd.ntmps21
  go_wp2_with fail
  have hbox : BlkIs (w.alloc (.cells #[.slice A1 n c1, .slice A2 s c2] 52)) w.heap.size 52 #[.slice A1 n c1, .slice A2 s c2] := BlkIs.fresh _ _ _
  have hb0 := below_alloc w (.cells #[.slice A1 n c1, .slice A2 s c2] 52)
  go_loopw [3, 4] (fun x i wr => ∃ (m : Int) (k : Nat), k ≤ n ∧ i = .int .i64 k ∧ x = .int .i64 m ∧ (s : Int) ≤ m ∧ m ≤ 4000000000000000 ∧ Below w.heap.size w wr ∧ BlkIs wr w.heap.size 52 #[.slice A1 n c1, .slice A2 s c2] ∧ Hid (m < 1048576 → ∀ j (h : j < L.length), j < k → PatSmall L[j])) (fun _ i _ => n - (intOf i).toNat)
  case atStart => exact ⟨s + n, 0, by omega, rfl, rfl, by omega, by omega, hb0, hbox, Lib.hid (fun _ j _ h => absurd h (by omega))⟩
  case round =>
    obtain ⟨m, k, hk, rfl, rfl, hm1, hm2, hb, hbk, hsm⟩ := hrel
    clear hbox hb0
    obtain ⟨wo, rfl⟩ : ∃ wo : World, wo = wr := ⟨_, rfl⟩
    have hbz := hbk.lt
    have hc0 : wo.cell? ⟨w.heap.size, 0, none⟩ = some (.slice A1 n c1) := hbk.cell 0
    have hc1 : wo.cell? ⟨w.heap.size, 1, none⟩ = some (.slice A2 s c2) := hbk.cell 1
    by_cases hlt : k < n ∧ m < 1048576
    · obtain ⟨hlt, hmm⟩ := hlt
      have hkl : k < L.length := by rw [hn.out]; exact hlt
      obtain ⟨g, off, B, d, rfl, _, hg, ⟨a0, a1, a2⟩, hri⟩ := pats_at (H1.out.below hb) k hkl
      have hcall := fun W => treeW_any L[k] B d 300 W
      obtain ⟨rs, hrs⟩ : ∃ rs, Hid (L[k] = rs) := ⟨_, Lib.hid rfl⟩
      rw [hrs.out] at a0 a1 a2 hri hcall
      have HI : Hid (PatIn wo B d rs) := Lib.hid ⟨_, hri⟩
      clear hri
      go_wp2_with fail
      refine (hcall _ HI.out (by omega)).mono ?_
      rintro e w3 ⟨⟨m2, rfl, h1, h2, h3, hb3⟩, _⟩
      have H3 := Lib.hid h3
      clear h3 hcall
      go_wp2_with fail
      go_roundw
      case rel =>
        refine ⟨m + m2, k + 1, by omega, by go_num, rfl, by omega, by omega, hb.trans (hb3.mono hb.size), hbk.below hb3 hbz, Lib.hid (fun hlt2 j hj hjk => ?_)⟩
        by_cases e : j = k
        · subst e; rw [hrs.out]; exact H3.out (by omega)
        · exact hsm.out hmm j hj (by omega)
      case measure => simp [intOf]; omega
    · have hex : Hid (m ≤ 6000 → ∀ rs ∈ L, PatSmall rs) := by
        refine Lib.hid (fun h rs hrs => ?_)
        obtain ⟨j, hj, rfl⟩ := List.getElem_of_mem hrs
        have : ¬ k < n := fun hk => hlt ⟨hk, by omega⟩
        exact hsm.out (by omega) j hj (by rw [hn.out] at hj; omega)
      by_cases hkn : k < n
      · have hmm : ¬ m < 1048576 := fun h => hlt ⟨hkn, h⟩
        clear hlt hsm
        go_wp2_with fail
        go_loop [3, 5] (fun x i => ∃ (m2 : Int) (j : Nat), j ≤ s ∧ i = .int .i64 j ∧ x = .int .i64 m2 ∧ m ≤ m2 ∧ m2 ≤ 4000000000000000) (fun _ i => s - (intOf i).toNat)
        case atStart => exact ⟨m, 0, by omega, rfl, rfl, by omega, by omega⟩
        case round =>
          obtain ⟨m2, j, hj, rfl, rfl, hmm1, hmm2⟩ := hrel
          by_cases hlt2 : j < s ∧ m2 < 1048576
          · exact absurd hlt2.2 (by omega)
          · by_cases hjs : j < s
            · have hms : ¬ m2 < 1048576 := fun h => hlt2 ⟨hjs, h⟩
              clear hlt2
              go_wp2_with fail
              go_ret
              exact ⟨_, rfl, fun h => ⟨hex.out (by simp at h; omega), by simp at h; omega⟩, hb⟩
            · clear hlt2
              go_wp2_with fail
              go_ret
              exact ⟨_, rfl, fun h => ⟨hex.out (by simp at h; omega), by simp at h; omega⟩, hb⟩
      · clear hlt hsm
        go_wp2_with fail
        go_loop [3, 5] (fun x i => ∃ (m2 : Int) (j : Nat), j ≤ s ∧ i = .int .i64 j ∧ x = .int .i64 m2 ∧ m ≤ m2 ∧ m2 ≤ 4000000000000000) (fun _ i => s - (intOf i).toNat)
        case atStart => exact ⟨m, 0, by omega, rfl, rfl, by omega, by omega⟩
        case round =>
          obtain ⟨m2, j, hj, rfl, rfl, hmm1, hmm2⟩ := hrel
          by_cases hlt2 : j < s ∧ m2 < 1048576
          · obtain ⟨hlt2, hms⟩ := hlt2
            have hjl : j < S.length := by rw [hs.out]; exact hlt2
            obtain ⟨g, off, rfl, _, hg, a0⟩ := strs_at (H2.out.below hb) j hjl
            have hfl := hwS S[j] (List.getElem_mem hjl)
            unfold reachBytes at hfl
            obtain ⟨x, hx⟩ : ∃ x, Hid (S[j] = x) := ⟨_, Lib.hid rfl⟩
            rw [hx.out] at a0 hfl
            obtain ⟨fl, hfl2⟩ : ∃ f, Hid (x.length = f) := ⟨_, Lib.hid rfl⟩
            have hsz : (⟨x.toArray⟩ : ByteArray).size = fl := by rw [← hfl2.out]; simp [ByteArray.size]
            rw [hfl2.out] at hfl
            go_wp2_with fail
            go_round
            case rel => exact ⟨m2 + fl, j + 1, by omega, by go_num, rfl, by omega, by omega⟩
            case measure => simp [intOf]; omega
          · by_cases hjs : j < s
            · have hms : ¬ m2 < 1048576 := fun h => hlt2 ⟨hjs, h⟩
              clear hlt2
              go_wp2_with fail
              go_ret
              exact ⟨_, rfl, fun h => ⟨hex.out (by simp at h; omega), by simp at h; omega⟩, hb⟩
            · clear hlt2
              go_wp2_with fail
              go_ret
              exact ⟨_, rfl, fun h => ⟨hex.out (by simp at h; omega), by simp at h; omega⟩, hb⟩


theorem str_info : (Tryd.prog.info? 9).map (fun i => (i.zero, i.size, i.bytes)) = some (some (.string ⟨#[]⟩), 1, 16) := by kernel_rfl

set_option maxHeartbeats 2000000 in
theorem copyStrs_any (S : List (List UInt8)) (hs : S.length ≤ 1000000) (ok : Nat → Prop) (A : Option Addr) (c : Nat) (w : World) (h : Rep w ok (.lst 1 (S.map .str)) [.slice A S.length c]) :
    Calls Tryd.prog 33 #[.slice A S.length c] w (OwnRet 9 1 (S.map .str) w) := by
  obtain ⟨n, hn⟩ : ∃ n, Hid (S.length = n) := ⟨_, Lib.hid rfl⟩
  rw [hn.out] at hs h ⊢
  have HP := Lib.hid h
  clear h
  go_enter Tryd.func33, Tryd.ntmps33
  go_wp2_with fail
  go_loopw [3, 4] (fun v i wr => ∃ k : Nat, k ≤ n ∧ i = .int .i64 k ∧ Own wr w.heap.size (fun g => w.heap.size ≤ g) 9 1 v ((S.take k).map .str) ∧ Below w.heap.size w wr) (fun _ i _ => n - (intOf i).toNat)
  case atStart => exact ⟨0, by omega, rfl, Own.nil _ _ _ _ _, Below.refl _ _⟩
  case round =>
    obtain ⟨k, hk, rfl, hown, hb⟩ := hrel
    obtain ⟨wo, rfl⟩ : ∃ wo : World, wo = wr := ⟨_, rfl⟩
    by_cases hlt : k < n
    · have hkl : k < S.length := by rw [hn.out]; exact hlt
      obtain ⟨g, off, rfl, _, hg, a0⟩ := strs_at (HP.out.below hb) k hkl
      have hts := Lib.hid (take_map D.str S k hkl)
      obtain ⟨q, hq⟩ : ∃ q, Hid (S[k] = q) := ⟨_, Lib.hid rfl⟩
      rw [hq.out] at a0 hts
      have hlen : ((S.take k).map D.str).length ≤ 1000000000 := by simp; omega
      have hbz := hb.size
      go_wp2_with (at_builtin; go_must (refine append_one rfl (.tmp 11) (.tmp 16) 23 9 1 16 _ rfl Tryd.underlying23 str_info rfl (by decide) (by decide) w.heap.size (fun g => w.heap.size ≤ g) _ _ rfl wo.heap.size rfl (hown.alloc _) [.string ⟨q.toArray⟩] (.str q) (BlkIs.fresh _ _ _) rfl (by simp [Value.oneCell']) (by unfold Rep; rfl) hlen (by simp; omega) ?_); intro v2 w2 hown2 hb2 hk2)
      go_roundw
      case rel => exact ⟨k + 1, by omega, by go_num, by rw [hts.out]; exact hown2, (hb.alloc (by omega) _).trans hb2⟩
      case measure => simp [intOf]; omega
    · obtain rfl : k = n := by omega
      go_wp2_with fail
      go_ret
      have h1 : S.take k = S := List.take_of_length_le (by rw [hn.out]; omega)
      rw [h1] at hown
      exact ⟨_, rfl, hown, hb⟩

end

/- The law TreeTexts: its walk. (Printed by gen/gen_txj.py.) -/
section
open Go.RowKit

theorem parse_text {q : Pat} (hw : PatWf q) (hm : mayT q = true) : parseA (textT q) = some q := by
  obtain ⟨h1, h2⟩ := mayT_ok hm
  have h3 := reads_all q hw h1 201 200 [] h2 (by omega)
  rw [List.append_nil] at h3
  unfold parseA
  rw [h3]
  simp [hm]

theorem cells3 {w : World} {ok : Nat → Prop} (a b c : List UInt8) : Cells w ok 1 ([a, b, c].map D.str) [.string ⟨a.toArray⟩, .string ⟨b.toArray⟩, .string ⟨c.toArray⟩] :=
  ⟨[_], [_, _], rfl, rfl, by unfold Rep; rfl, [_], [_], rfl, rfl, by unfold Rep; rfl, [_], [], rfl, rfl, by unfold Rep; rfl, rfl⟩

set_option maxRecDepth 100000 in
set_option maxHeartbeats 8000000 in
theorem treeTexts_any (L : List Pat) (S : List (List UInt8)) (A1' A2' : Option Addr) (c1 c2' : Nat) (w : World) (hwf : TAskWf L S) (hpw : ∀ t ∈ L, PatWf t)
    (h1 : Rep w (fun _ => True) (.lst 3 (L.map encP)) [.slice A1' L.length c1]) (h2 : Rep w (fun _ => True) (.lst 1 (S.map .str)) [.slice A2' S.length c2']) (ht : Tabs2 w) :
    Calls Tryd.prog 6 #[.agg #[.slice A1' L.length c1, .slice A2' S.length c2']] w fun e w' => e = .returned (.bool true) ∧ Below w.heap.size w w' := by
  have hhv := fun W h1 h2 => heavy6s_any L S A1' A2' c1 c2' W hwf h1 h2
  obtain ⟨hL, hS, hSl⟩ := hwf
  unfold reachBytes at hL hS hSl
  have HSL : Hid (∀ s ∈ S, s.length ≤ 140737488355328) := Lib.hid (fun s hs => by have := hSl s hs; omega)
  have hcp := fun hs W h => copyStrs_any S hs (fun _ => True) A2' c2' W h
  clear hSl
  have HPW := Lib.hid hpw
  obtain ⟨n, hn⟩ : ∃ n, Hid (L.length = n) := ⟨_, Lib.hid rfl⟩
  obtain ⟨sn, hsn⟩ : ∃ s, Hid (S.length = s) := ⟨_, Lib.hid rfl⟩
  rw [hn.out] at hL h1 hhv ⊢
  rw [hsn.out] at hS h2 hhv hcp ⊢
  have H1 := Lib.hid h1
  have H2 := Lib.hid h2
  have HT := Lib.hid ht
  clear h1 h2 ht hpw
  have hb0 := below_alloc w (.cells #[.slice A1' n c1, .slice A2' sn c2'] 52)
  have hbox : BlkIs (w.alloc (.cells #[.slice A1' n c1, .slice A2' sn c2'] 52)) w.heap.size 52 #[.slice A1' n c1, .slice A2' sn c2'] := BlkIs.fresh _ _ _
  have cn := fun (x : Int) W => num6_any x W
  go_enter Tryd.func6, Tryd.ntmps6
  go_wp2_with fail
  refine (hhv _ (H1.out.below hb0) (H2.out.below hb0)).mono ?_
  rintro e wh ⟨b, rfl, hsm, hbh⟩
  have hbw := hb0.trans (hbh.mono (by simp))
  have hbx2 := hbox.below hbh hbox.lt
  have hszh := hbx2.lt
  clear hhv hbox
  cases b
  case true =>
    go_wp2_with fail
    go_ret
    exact ⟨rfl, hbw⟩
  case false =>
    have hsn6 := (hsm rfl).2
    clear hsm
    have hq1 : wh.cell? ⟨w.heap.size, 1, none⟩ = some (.slice A2' sn c2') := hbx2.cell 1
    go_wp2_with fail
    refine (hcp (by omega) wh (H2.out.below hbw)).mono ?_
    rintro e wc ⟨v, rfl, hown, hbc⟩
    have hbw2 := hbw.trans (hbc.mono hbw.size)
    have hbx3 := hbx2.below hbc hbx2.lt
    have HO0 : Hid (Own wc (w.heap.size + 1) (fun g => w.heap.size + 1 ≤ g) 9 1 v (S.map .str)) := Lib.hid ((hown.base (by omega)).imp (fun g hg _ => by omega))
    clear hown hcp hq1 hbx2 hbw hbh hbc
    go_wp2_with fail
    go_loopw [3, 4] (fun v i wr => ∃ (k : Nat) (X : List (List UInt8)), k ≤ n ∧ i = .int .i64 k ∧ Hid (Own wr (w.heap.size + 1) (fun g => w.heap.size + 1 ≤ g) 9 1 v (X.map .str)) ∧ Hid (∀ s ∈ X, s.length ≤ 140737488355328) ∧ X.length ≤ sn + 3 * k ∧ k ≤ 8 ∧ Below w.heap.size w wr ∧ BlkIs wr w.heap.size 52 #[.slice A1' n c1, .slice A2' sn c2']) (fun _ i _ => n - (intOf i).toNat)
    case atStart => exact ⟨0, S, by omega, rfl, HO0, HSL, by rw [hsn.out]; omega, by omega, hbw2, hbx3⟩
    case round =>
      obtain ⟨k, X, hk, rfl, HO, HX, hXl, hk8, hb, hbk⟩ := hrel
      obtain ⟨wo, rfl⟩ : ∃ wo : World, wo = wr := ⟨_, rfl⟩
      clear hbx3 hbw2 HO0
      have hbz0 := hbk.lt
      have hc0 : wo.cell? ⟨w.heap.size, 0, none⟩ = some (.slice A1' n c1) := hbk.cell 0
      by_cases hlt : k < n ∧ k < 8
      · obtain ⟨hlt, hk8⟩ := hlt
        have hkl : k < L.length := by rw [hn.out]; exact hlt
        obtain ⟨g, off, B, c, rfl, _, hg, ⟨A0, A1, A2⟩, hpi⟩ := pats_at (H1.out.below hb) k hkl
        have hqw := HPW.out _ (List.getElem_mem hkl)
        obtain ⟨q, hq⟩ : ∃ q, Hid (L[k] = q) := ⟨_, Lib.hid rfl⟩
        rw [hq.out] at A0 A1 A2 hpi hqw
        have HL : Hid (PatIn wo B c q) := Lib.hid ⟨_, hpi⟩
        clear hpi
        have hTo := HT.out.below hb
        have d1 := fun W h ht => ttext_any q B c W h hqw ht
        have d4 := fun W h => mayTR_any q B c W h
        have d6 := fun A B c d W h h2 => eqTree_any q q A B c d W h h2
        rw [same_self] at d6
        unfold TextRet textA at d1
        unfold FitTPost at d4
        cases hmay : mayT q
        · rw [hmay] at d1 d4
          clear hmay hqw d6
          simp only [errT] at d1
          have a0 := A0
          have a1 := A1
          have a2 := A2
          go_wp2_with fail
          refine (d1 _ HL.out hTo.1).mono ?_
          rintro e w1 ⟨rfl, hc1b⟩
          clear a0 a1 a2
          have hbs := hc1b
          have q0 : w1.cell? ⟨w.heap.size, 0, none⟩ = some (.slice (some ⟨g, off, none⟩) n c1) := (hbs.cell (p := ⟨w.heap.size, 0, none⟩) hbz0).trans hc0
          have a0 := (hbs.cell (p := ⟨g, off + k * 3, none⟩) hg).trans A0
          have a1 := (hbs.cell (p := ⟨g, off + k * 3 + 1, none⟩) hg).trans A1
          have a2 := (hbs.cell (p := ⟨g, off + k * 3 + 2, none⟩) hg).trans A2
          have hlg : g < w1.heap.size := by have := hbs.size; omega
          go_wp2_with fail
          refine (d4 _ (HL.out.below hbs)).mono ?_
          rintro e w2 ⟨m, rfl, _, hc2⟩
          clear q0 a0 a1 a2 hlg
          have hbt := hbs.trans (hc2.mono hbs.size)
          have q0 : w2.cell? ⟨w.heap.size, 0, none⟩ = some (.slice (some ⟨g, off, none⟩) n c1) := (hbt.cell (p := ⟨w.heap.size, 0, none⟩) hbz0).trans hc0
          have a0 := (hbt.cell (p := ⟨g, off + k * 3, none⟩) hg).trans A0
          have a1 := (hbt.cell (p := ⟨g, off + k * 3 + 1, none⟩) hg).trans A1
          have a2 := (hbt.cell (p := ⟨g, off + k * 3 + 2, none⟩) hg).trans A2
          have hlg : g < w2.heap.size := by have := hbt.size; omega
          go_wp2_with (go_at_call 29; refine (cn _ _).mono ?_; rintro e w9 ⟨rfl, rfl⟩)
          go_roundw
          case rel => exact ⟨k + 1, X, by omega, by go_num, Lib.hid (HO.out.below hbt), HX, by omega, by omega, hb.trans (hbt.mono hb.size), hbk.below hbt hbz0⟩
          case measure => simp [intOf]; omega
        · have hok := Lib.hid (mayT_ok hmay).1
          have hqn := (mayT_ok hmay).2
          have hpt := parse_text hqw hmay
          have htl := text_len q hqw
          have htp := textT_pos q
          have d3 := fun W h => textR_any' q B c W h hqw hok.out (by omega)
          rw [hmay] at d1 d4
          clear hmay
          simp only [errT, if_true] at d1
          obtain ⟨tq, htq⟩ : ∃ x, Hid (textT q = x) := ⟨_, Lib.hid rfl⟩
          rw [htq.out] at d1 d3 hpt htl htp
          have d5 := fun W ht => tparse_any tq (by omega) W ht
          unfold ParsePRet treeA at d5
          rw [hpt] at d5
          simp only [Option.getD_some, Option.isSome_some, errT, if_true] at d5
          obtain ⟨tm, htm⟩ : ∃ tm, tq.length = tm + 1 := ⟨tq.length - 1, by omega⟩
          have htm6 : tm ≤ 7000 := by omega
          have hsz : (⟨tq.toArray⟩ : ByteArray).size = tm + 1 := by simp [ByteArray.size, htm]
          obtain ⟨t1, ht1⟩ : ∃ x, Hid (tq ++ [41] = x) := ⟨_, Lib.hid rfl⟩
          obtain ⟨t2, ht2⟩ : ∃ x, Hid (tq.take tm = x) := ⟨_, Lib.hid rfl⟩
          obtain ⟨t3, ht3⟩ : ∃ x, Hid ([32] ++ tq = x) := ⟨_, Lib.hid rfl⟩
          have p1 := fun W => add_str tq [41] t1 ht1.out (by simp; omega) W
          have p3 := fun W => add_str [32] tq t3 ht3.out (by simp; omega) W
          have e1 := ext_head tq tm
          rw [ht2.out] at e1
          have HX2 : Hid (∀ s ∈ X ++ [t1, t2, t3], s.length ≤ 140737488355328) := Lib.hid (by
            intro s hs
            rcases List.mem_append.1 hs with h | h
            · exact HX.out s h
            · simp only [List.mem_cons, List.not_mem_nil, or_false] at h
              rcases h with rfl | rfl | rfl
              · rw [← ht1.out]; simp; omega
              · rw [← ht2.out, List.length_take]; omega
              · rw [← ht3.out]; simp; omega)
          have HTM := Lib.hid htm
          clear hpt htl htp htm
          have a0 := A0
          have a1 := A1
          have a2 := A2
          go_wp2_with fail
          refine (d1 _ HL.out hTo.1).mono ?_
          rintro e w1 ⟨rfl, hc1b⟩
          clear a0 a1 a2
          have hbs := hc1b
          have q0 : w1.cell? ⟨w.heap.size, 0, none⟩ = some (.slice (some ⟨g, off, none⟩) n c1) := (hbs.cell (p := ⟨w.heap.size, 0, none⟩) hbz0).trans hc0
          have a0 := (hbs.cell (p := ⟨g, off + k * 3, none⟩) hg).trans A0
          have a1 := (hbs.cell (p := ⟨g, off + k * 3 + 1, none⟩) hg).trans A1
          have a2 := (hbs.cell (p := ⟨g, off + k * 3 + 2, none⟩) hg).trans A2
          have hlg : g < w1.heap.size := by have := hbs.size; omega
          go_wp2_with fail
          refine (d4 _ (HL.out.below hbs)).mono ?_
          rintro e w2 ⟨m, rfl, _, hc2⟩
          clear q0 a0 a1 a2 hlg
          have hbt := hbs.trans (hc2.mono hbs.size)
          have q0 : w2.cell? ⟨w.heap.size, 0, none⟩ = some (.slice (some ⟨g, off, none⟩) n c1) := (hbt.cell (p := ⟨w.heap.size, 0, none⟩) hbz0).trans hc0
          have a0 := (hbt.cell (p := ⟨g, off + k * 3, none⟩) hg).trans A0
          have a1 := (hbt.cell (p := ⟨g, off + k * 3 + 1, none⟩) hg).trans A1
          have a2 := (hbt.cell (p := ⟨g, off + k * 3 + 2, none⟩) hg).trans A2
          have hlg : g < w2.heap.size := by have := hbt.size; omega
          go_wp2_with fail
          refine (d3 _ (HL.out.below hbt)).mono ?_
          rintro e w3 ⟨rfl, hc3⟩
          clear q0 a0 a1 a2 hlg
          have hbu := hbt.trans (hc3.mono hbt.size)
          have q0 : w3.cell? ⟨w.heap.size, 0, none⟩ = some (.slice (some ⟨g, off, none⟩) n c1) := (hbu.cell (p := ⟨w.heap.size, 0, none⟩) hbz0).trans hc0
          have a0 := (hbu.cell (p := ⟨g, off + k * 3, none⟩) hg).trans A0
          have a1 := (hbu.cell (p := ⟨g, off + k * 3 + 1, none⟩) hg).trans A1
          have a2 := (hbu.cell (p := ⟨g, off + k * 3 + 2, none⟩) hg).trans A2
          have hlg : g < w3.heap.size := by have := hbu.size; omega
          go_wp2_with fail
          refine (d5 _ (hTo.below hbu)).mono ?_
          rintro e w4 ⟨A5, c5, rfl, hp5, hc4⟩
          have hxz : BlkIs (w4.alloc (.cells #[.int .i64 q.op, .int .i64 q.nt, .slice A5 q.kids.length c5] 55)) w4.heap.size 55 #[.int .i64 q.op, .int .i64 q.nt, .slice A5 q.kids.length c5] := BlkIs.fresh _ _ _
          have HP5 : Hid (PatIn (w4.alloc (.cells #[.int .i64 q.op, .int .i64 q.nt, .slice A5 q.kids.length c5] 55)) A5 c5 q) := Lib.hid (hp5.below (below_alloc _ _))
          have hca := hc4.alloc hc4.size (.cells #[.int .i64 q.op, .int .i64 q.nt, .slice A5 q.kids.length c5] 55)
          clear hp5 hc4
          go_upto_region 13 with fail
          obtain ⟨wz, hwz⟩ : ∃ W, w4.alloc (.cells #[.int .i64 q.op, .int .i64 q.nt, .slice A5 q.kids.length c5] 55) = W := ⟨_, rfl⟩
          rw [hwz] at hxz HP5 hca ⊢
          clear hwz
          clear q0 a0 a1 a2 hlg
          have hbz := hbu.trans (hca.mono hbu.size)
          have q0 : wz.cell? ⟨w.heap.size, 0, none⟩ = some (.slice (some ⟨g, off, none⟩) n c1) := (hbz.cell (p := ⟨w.heap.size, 0, none⟩) hbz0).trans hc0
          have a0 := (hbz.cell (p := ⟨g, off + k * 3, none⟩) hg).trans A0
          have a1 := (hbz.cell (p := ⟨g, off + k * 3 + 1, none⟩) hg).trans A1
          have a2 := (hbz.cell (p := ⟨g, off + k * 3 + 2, none⟩) hg).trans A2
          have hlg : g < wz.heap.size := by have := hbz.size; omega
          have hszz := hbz.size
          refine beginH (fun W' => Below wz.heap.size wz W') (by kernel_rfl) ((Below.refl _ _).drew) (fun hHeld => ?_)
          refine takeH (i := 0) (d := some 64) (v := .int .i64 0) (by kernel_rfl) rfl rfl rfl (fun _ _ _ h => h) hHeld (fun W hSw => by go_simp) ?_
          simp only [Act.put, List.setIfInBounds_toArray, List.set_cons_zero, List.set_cons_succ]
          refine onlyH (i := 1) (d := some 65) (by kernel_rfl) rfl rfl rfl (fun K' hK => ?_)
          refine wp_go_call 29 _ _ rfl #[.int .i64 0] rfl (fun W' => by go_simp) (cn 0 _) (fun e wg he => ?_)
          obtain ⟨rfl, rfl⟩ := he
          refine ⟨_, rfl, hK.out _ _ (hHeld) (fun hHeld => ?_)⟩
          simp only [Act.put, List.setIfInBounds_toArray, List.set_cons_zero, List.set_cons_succ]
          refine takeH (i := 2) (d := some 66) (v := .bool false) (by kernel_rfl) rfl rfl rfl (fun _ _ _ h => h) hHeld (fun W hSw => by go_simp) ?_
          simp only [Act.put, List.setIfInBounds_toArray, List.set_cons_zero, List.set_cons_succ]
          refine takeH (i := 3) (d := some 67) (v := .bool false) (by kernel_rfl) rfl rfl rfl (fun _ _ _ h => h) hHeld (fun W hSw => by go_simp) ?_
          simp only [Act.put, List.setIfInBounds_toArray, List.set_cons_zero, List.set_cons_succ]
          refine takeH (i := 4) (d := some 68) (v := .agg #[.int .i64 q.op, .int .i64 q.nt, .slice A5 q.kids.length c5]) (by kernel_rfl) rfl rfl rfl (fun _ _ _ h => h) hHeld (fun W hSw => by exact exec_load_row rfl rfl (hxz.below hSw hxz.lt) Tryd.underlying55 rfl (by kernel_rfl)) ?_
          simp only [Act.put, List.setIfInBounds_toArray, List.set_cons_zero, List.set_cons_succ]
          refine takeH (i := 5) (d := some 69) (v := .pointer (some ⟨w.heap.size, 0, none⟩)) (by kernel_rfl) rfl rfl rfl (fun _ _ _ h => h) hHeld (fun W hSw => by go_simp) ?_
          simp only [Act.put, List.setIfInBounds_toArray, List.set_cons_zero, List.set_cons_succ]
          refine takeH (i := 6) (d := some 70) (v := .slice (some ⟨g, off, none⟩) n c1) (by kernel_rfl) rfl rfl rfl (fun _ _ _ h => h) hHeld (fun W hSw => by have x0 := (hSw.cell (p := ⟨w.heap.size, 0, none⟩) (by show w.heap.size < _; omega)).trans q0; go_simp) ?_
          simp only [Act.put, List.setIfInBounds_toArray, List.set_cons_zero, List.set_cons_succ]
          refine takeH (i := 7) (d := some 71) (v := .int .i64 k) (by kernel_rfl) rfl rfl rfl (fun _ _ _ h => h) hHeld (fun W hSw => by go_simp) ?_
          simp only [Act.put, List.setIfInBounds_toArray, List.set_cons_zero, List.set_cons_succ]
          refine takeH (i := 8) (d := some 72) (v := .pointer (some ⟨g, off + k * 3, none⟩)) (by kernel_rfl) rfl rfl rfl (fun _ _ _ h => h) hHeld (fun W hSw => by go_simp) ?_
          simp only [Act.put, List.setIfInBounds_toArray, List.set_cons_zero, List.set_cons_succ]
          refine takeH (i := 9) (d := some 73) (v := .agg #[.int .i64 q.op, .int .i64 q.nt, .slice B q.kids.length c]) (by kernel_rfl) rfl rfl rfl (fun _ _ _ h => h) hHeld (fun W hSw => by have x0 := (hSw.cell (p := ⟨g, off + k * 3, none⟩) (by show g < _; omega)).trans a0; have x1 := (hSw.cell (p := ⟨g, off + k * 3 + 1, none⟩) (by show g < _; omega)).trans a1; have x2 := (hSw.cell (p := ⟨g, off + k * 3 + 2, none⟩) (by show g < _; omega)).trans a2; go_simp) ?_
          simp only [Act.put, List.setIfInBounds_toArray, List.set_cons_zero, List.set_cons_succ]
          refine onlyH (i := 10) (d := some 74) (by kernel_rfl) rfl rfl rfl (fun K' hK => ?_)
          refine wp_go_call 31 _ _ rfl #[.agg #[.int .i64 q.op, .int .i64 q.nt, .slice A5 q.kids.length c5], .agg #[.int .i64 q.op, .int .i64 q.nt, .slice B q.kids.length c]] rfl (fun W' => by go_simp) (d6 _ _ _ _ _ (HP5.out.below hHeld) (HL.out.below (hbz.trans (hHeld.mono hbz.size)))) (fun e wg he => ?_)
          obtain ⟨rfl, hbg⟩ := he
          refine ⟨_, rfl, hK.out _ _ (hHeld.trans (hbg.mono hHeld.size)) (fun hHeld => ?_)⟩
          simp only [Act.put, List.setIfInBounds_toArray, List.set_cons_zero, List.set_cons_succ]
          refine takeH (i := 11) (d := some 75) (v := .bool false) (by kernel_rfl) rfl rfl rfl (fun _ _ _ h => h) hHeld (fun W hSw => by go_simp) ?_
          simp only [Act.put, List.setIfInBounds_toArray, List.set_cons_zero, List.set_cons_succ]
          refine takeH (i := 12) (d := some 76) (v := .bool false) (by kernel_rfl) rfl rfl rfl (fun _ _ _ h => h) hHeld (fun W hSw => by go_simp) ?_
          simp only [Act.put, List.setIfInBounds_toArray, List.set_cons_zero, List.set_cons_succ]
          refine wpAnyH_done (by kernel_rfl) ?_ _
          have hbe := hbz.trans (hHeld.mono hbz.size)
          have hoe := HO.out.below hbe
          have hve := hoe.ge
          obtain ⟨we, hwe⟩ : ∃ W : World, W = wg := ⟨_, rfl⟩
          subst hwe
          have hfr : Own (we.alloc (.cells #[.string ⟨t1.toArray⟩, .string ⟨t2.toArray⟩, .string ⟨t3.toArray⟩] 9)) (we.heap.size) (fun g => we.heap.size ≤ g) 9 1 (.slice (some ⟨we.heap.size, 0, none⟩) 3 3) ([t1, t2, t3].map D.str) := Own.fresh (cells3 t1 t2 t3) (Nat.le_refl _) (by simp [maxLen]) rfl rfl
          have hXm : (X.map D.str).length + ([t1, t2, t3].map D.str).length ≤ 1000000000 := by simp; omega
          have hwe1 : w.heap.size + 1 ≤ we.heap.size := by have := hbe.size; omega
          have HOE := Lib.hid hoe
          have HFR := Lib.hid hfr
          clear hoe hfr hve
          go_wp2_with (first | (at_builtin; go_must (refine append_all rfl (.tmp 77) (.tmp 87) 23 9 1 16 _ rfl Tryd.underlying23 str_info rfl (by decide) (by decide) (w.heap.size + 1) (fun g => w.heap.size + 1 ≤ g) _ _ rfl _ rfl (HOE.out.alloc _) we.heap.size (fun g => we.heap.size ≤ g) ([t1, t2, t3].map D.str) HFR.out (fun q hq => ⟨by omega, HOE.out.ne_far hq⟩) hXm (by simp; omega) ?_); intro v2 w8 hown2 hb2 hk2) | (go_at_call 29; refine (cn _ _).mono ?_; rintro e w9 ⟨rfl, rfl⟩))
          go_roundw
          case rel =>
            refine ⟨k + 1, X ++ [t1, t2, t3], by omega, by go_num, Lib.hid (by rw [List.map_append]; exact hown2), HX2, by simp; omega, by omega, ?_, ?_⟩
            · exact (hb.trans ((hbe.alloc hbe.size _).mono hb.size)).trans (hb2.mono (by omega))
            · exact ((hbk.below hbe hbz0).alloc _).below hb2 (by omega)
          case measure => simp [intOf]; omega
      · obtain ⟨A6, c6, hv6, _⟩ := HO.out.rep.len
        rw [List.length_map] at hv6
        obtain ⟨xl, hxl⟩ : ∃ x, Hid (X.length = x) := ⟨_, Lib.hid rfl⟩
        rw [hxl.out] at hv6 hXl
        subst hv6
        have hXl2 : xl ≤ 7000 := by omega
        have hex : (¬ k < n) ∨ (k < n ∧ ¬ k < 8) := by omega
        clear hlt
        have key : True := trivial
        rcases hex with hkn | ⟨hkn, hk8'⟩
        · go_wp2_with fail
          go_loopw [13] (fun i wr => ∃ j : Nat, j ≤ xl ∧ i = .int .i64 j ∧ Below wo.heap.size wo wr) (fun i _ => xl - (intOf i).toNat)
          case atStart => exact ⟨0, by omega, rfl, Below.refl _ _⟩
          case round =>
            obtain ⟨j, hj, rfl, hbj⟩ := hrel
            obtain ⟨wp, rfl⟩ : ∃ wp : World, wp = wr := ⟨_, rfl⟩
            have hTj := HT.out.below (hb.trans (hbj.mono hb.size))
            by_cases hlt : j < xl ∧ j < 30
            · obtain ⟨hlt, hj30⟩ := hlt
              have hjl : j < X.length := by rw [hxl.out]; exact hlt
              have hrj := (HO.out.below hbj).rep
              obtain ⟨g, off, rfl, _, hg, a0⟩ := strs_at hrj j hjl
              have hsl := HX.out _ (List.getElem_mem hjl)
              obtain ⟨s, hs⟩ : ∃ q, Hid (X[j] = q) := ⟨_, Lib.hid rfl⟩
              rw [hs.out] at a0 hsl
              have d1 := fun W ht => tparse_any s hsl W ht
              have d2 := fun W => rparse_any s hsl W
              unfold ParsePRet at d1
              unfold ParseRRet at d2
              obtain ⟨q, hq⟩ : ∃ q, Hid (treeA s = q) := ⟨_, Lib.hid rfl⟩
              rw [hq.out] at d1 d2
              have d6 := fun A B c d W h h2 => eqTree_any q q A B c d W h h2
              rw [same_self] at d6
              have hbzj := hbj.size
              cases hps : (parseA s).isSome
              all_goals
                rw [hps] at d1 d2
                clear hps
                simp only [errT, if_true, Bool.false_eq_true, if_false] at d1
                go_wp2_with fail
                refine (d1 _ hTj).mono ?_
                rintro e w1 ⟨A7, c7, rfl, hp7, hc7⟩
                have x7 : BlkIs (w1.alloc (.cells #[.int .i64 q.op, .int .i64 q.nt, .slice A7 q.kids.length c7] 55)) w1.heap.size 55 #[.int .i64 q.op, .int .i64 q.nt, .slice A7 q.kids.length c7] := BlkIs.fresh _ _ _
                have hb7 := hc7.alloc hc7.size (.cells #[.int .i64 q.op, .int .i64 q.nt, .slice A7 q.kids.length c7] 55)
                have b0 := (hb7.cell (p := ⟨g, off + j, none⟩) hg).trans a0
                have hlg : g < (w1.alloc (.cells #[.int .i64 q.op, .int .i64 q.nt, .slice A7 q.kids.length c7] 55)).heap.size := by have := hb7.size; omega
                go_upto_region 22 with fail
                obtain ⟨w2, hw2⟩ : ∃ W, w1.alloc (.cells #[.int .i64 q.op, .int .i64 q.nt, .slice A7 q.kids.length c7] 55) = W := ⟨_, rfl⟩
                have HP7 : Hid (PatIn w2 A7 c7 q) := Lib.hid (by rw [← hw2]; exact hp7.below (below_alloc _ _))
                rw [hw2] at x7 hb7 b0 hlg ⊢
                clear hw2 hp7 hc7
                go_wp2_with fail
                refine (d2 _).mono ?_
                rintro e w3 ⟨A8, c8, rfl, hp8, hc8⟩
                have y7 := x7.below hc8 x7.lt
                have x70 : w3.cell? ⟨w1.heap.size, 0, none⟩ = some (.int .i64 q.op) := y7.cell 0
                have x71 : w3.cell? ⟨w1.heap.size, 1, none⟩ = some (.int .i64 q.nt) := y7.cell 1
                have x72 : w3.cell? ⟨w1.heap.size, 2, none⟩ = some (.slice A7 q.kids.length c7) := y7.cell 2
                have hl7 := y7.lt
                have hb8 := hb7.trans (hc8.mono hb7.size)
                have HP8 := Lib.hid hp8
                have HP9 := Lib.hid (HP7.out.below hc8)
                clear b0 hlg hp8
                go_wp2_with (go_at_call 29; refine (cn _ _).mono ?_; rintro e w9 ⟨rfl, rfl⟩)
                refine (d6 _ _ _ _ _ (HP9.out.below (below_alloc _ _)) (HP8.out.below (below_alloc _ _))).mono ?_
                rintro e w4 ⟨rfl, hc9⟩
                go_wp2_with fail
                go_roundw
                case rel => exact ⟨j + 1, by omega, by go_num, hbj.trans (((hb8.alloc hb8.size _).trans (hc9.mono (by have := hb8.size; simp; omega))).mono hbzj)⟩
                case measure => simp [intOf]; omega
            · have hex2 : (¬ j < xl) ∨ (j < xl ∧ ¬ j < 30) := by omega
              clear hlt
              rcases hex2 with hjn | ⟨hjn, hj30⟩
              all_goals
                go_wp2_with fail
                refine (wakes6_any _ hTj.1).mono ?_
                rintro e w9 ⟨rfl, hb9⟩
                go_wp2_with fail
                go_ret
                exact ⟨rfl, (hb.trans (hbj.mono hb.size)).trans (hb9.mono (by have := hb.size; have := hbj.size; omega))⟩
        · go_wp2_with fail
          go_loopw [13] (fun i wr => ∃ j : Nat, j ≤ xl ∧ i = .int .i64 j ∧ Below wo.heap.size wo wr) (fun i _ => xl - (intOf i).toNat)
          case atStart => exact ⟨0, by omega, rfl, Below.refl _ _⟩
          case round =>
            obtain ⟨j, hj, rfl, hbj⟩ := hrel
            obtain ⟨wp, rfl⟩ : ∃ wp : World, wp = wr := ⟨_, rfl⟩
            have hTj := HT.out.below (hb.trans (hbj.mono hb.size))
            by_cases hlt : j < xl ∧ j < 30
            · obtain ⟨hlt, hj30⟩ := hlt
              have hjl : j < X.length := by rw [hxl.out]; exact hlt
              have hrj := (HO.out.below hbj).rep
              obtain ⟨g, off, rfl, _, hg, a0⟩ := strs_at hrj j hjl
              have hsl := HX.out _ (List.getElem_mem hjl)
              obtain ⟨s, hs⟩ : ∃ q, Hid (X[j] = q) := ⟨_, Lib.hid rfl⟩
              rw [hs.out] at a0 hsl
              have d1 := fun W ht => tparse_any s hsl W ht
              have d2 := fun W => rparse_any s hsl W
              unfold ParsePRet at d1
              unfold ParseRRet at d2
              obtain ⟨q, hq⟩ : ∃ q, Hid (treeA s = q) := ⟨_, Lib.hid rfl⟩
              rw [hq.out] at d1 d2
              have d6 := fun A B c d W h h2 => eqTree_any q q A B c d W h h2
              rw [same_self] at d6
              have hbzj := hbj.size
              cases hps : (parseA s).isSome
              all_goals
                rw [hps] at d1 d2
                clear hps
                simp only [errT, if_true, Bool.false_eq_true, if_false] at d1
                go_wp2_with fail
                refine (d1 _ hTj).mono ?_
                rintro e w1 ⟨A7, c7, rfl, hp7, hc7⟩
                have x7 : BlkIs (w1.alloc (.cells #[.int .i64 q.op, .int .i64 q.nt, .slice A7 q.kids.length c7] 55)) w1.heap.size 55 #[.int .i64 q.op, .int .i64 q.nt, .slice A7 q.kids.length c7] := BlkIs.fresh _ _ _
                have hb7 := hc7.alloc hc7.size (.cells #[.int .i64 q.op, .int .i64 q.nt, .slice A7 q.kids.length c7] 55)
                have b0 := (hb7.cell (p := ⟨g, off + j, none⟩) hg).trans a0
                have hlg : g < (w1.alloc (.cells #[.int .i64 q.op, .int .i64 q.nt, .slice A7 q.kids.length c7] 55)).heap.size := by have := hb7.size; omega
                go_upto_region 22 with fail
                obtain ⟨w2, hw2⟩ : ∃ W, w1.alloc (.cells #[.int .i64 q.op, .int .i64 q.nt, .slice A7 q.kids.length c7] 55) = W := ⟨_, rfl⟩
                have HP7 : Hid (PatIn w2 A7 c7 q) := Lib.hid (by rw [← hw2]; exact hp7.below (below_alloc _ _))
                rw [hw2] at x7 hb7 b0 hlg ⊢
                clear hw2 hp7 hc7
                go_wp2_with fail
                refine (d2 _).mono ?_
                rintro e w3 ⟨A8, c8, rfl, hp8, hc8⟩
                have y7 := x7.below hc8 x7.lt
                have x70 : w3.cell? ⟨w1.heap.size, 0, none⟩ = some (.int .i64 q.op) := y7.cell 0
                have x71 : w3.cell? ⟨w1.heap.size, 1, none⟩ = some (.int .i64 q.nt) := y7.cell 1
                have x72 : w3.cell? ⟨w1.heap.size, 2, none⟩ = some (.slice A7 q.kids.length c7) := y7.cell 2
                have hl7 := y7.lt
                have hb8 := hb7.trans (hc8.mono hb7.size)
                have HP8 := Lib.hid hp8
                have HP9 := Lib.hid (HP7.out.below hc8)
                clear b0 hlg hp8
                go_wp2_with (go_at_call 29; refine (cn _ _).mono ?_; rintro e w9 ⟨rfl, rfl⟩)
                refine (d6 _ _ _ _ _ (HP9.out.below (below_alloc _ _)) (HP8.out.below (below_alloc _ _))).mono ?_
                rintro e w4 ⟨rfl, hc9⟩
                go_wp2_with fail
                go_roundw
                case rel => exact ⟨j + 1, by omega, by go_num, hbj.trans (((hb8.alloc hb8.size _).trans (hc9.mono (by have := hb8.size; simp; omega))).mono hbzj)⟩
                case measure => simp [intOf]; omega
            · have hex2 : (¬ j < xl) ∨ (j < xl ∧ ¬ j < 30) := by omega
              clear hlt
              rcases hex2 with hjn | ⟨hjn, hj30⟩
              all_goals
                go_wp2_with fail
                refine (wakes6_any _ hTj.1).mono ?_
                rintro e w9 ⟨rfl, hb9⟩
                go_wp2_with fail
                go_ret
                exact ⟨rfl, (hb.trans (hbj.mono hb.size)).trans (hb9.mono (by have := hb.size; have := hbj.size; omega))⟩

end

/- What TreeTexts' row gives besides: the library's errors. -/
section
open Go.ChangeShapes Go.WideShapes Go.ChangeAt Go.RowKit
open Go.Extern.Stop Go.Stop Go.Extern

theorem star_err : "*" ++ "errors.errorString" = "*errors.errorString" := by decide
theorem row_err (u : TypeId) (h : Tryd.prog.typeName? 3 u = some "*errors.errorString") : u = 192 :=
  typeName_ptr_named (nm := "errors.errorString") (by rw [star_err]; kernel_rfl) (by kernel_rfl) (by decide) u (by rw [star_err]; exact h)
theorem cells_err : Tryd.prog.cellsOf 194 = 1 := by kernel_rfl
theorem cells_str1 : Tryd.prog.cellsOf 9 = 1 := by kernel_rfl

set_option maxRecDepth 100000 in
theorem err_var {W : World} {n : String} {text : List UInt8} {r : List (String × DataW Unit)} (h : laidMet Tryd.prog ((n, .iface "*errors.errorString" (.ptr (.agg [.lit (.string text)]))) :: r) W)
    {g : Nat} (hg : Tryd.prog.globalNamed n = some g) (ht : (Tryd.prog.globals[g]?).map (·.type) = some 137) : ErrVar W n := by
  obtain ⟨a, s, hv, _⟩ := laid_sentinel h hg ht Tryd.underlying137 row_err Tryd.underlying192 Tryd.underlying194 rfl rfl Tryd.underlying9 cells_err cells_str1
  exact ⟨_, _, hv⟩

set_option maxRecDepth 100000 in
theorem tabs2_of {W : World} (h : laidMetH Tryd.prog Rows.treeTextsRow.laid W) : Tabs2 W := by
  have h0 : laidMetH Tryd.prog [("math/bits.deBruijn32tab", Rows.laid_math_bits_deBruijn32tab), ("math/bits.deBruijn64tab", Rows.laid_math_bits_deBruijn64tab), ("internal/strconv.uint64pow10", Rows.laid_internal_strconv_uint64pow10), ("strconv.ErrRange", Rows.laid_strconv_ErrRange), ("strconv.ErrSyntax", Rows.laid_strconv_ErrSyntax), ("unicode.White_Space", Rows.laid_unicode_White_Space), ("strings.asciiSpace", Rows.laid_strings_asciiSpace)] W := h
  rw [MakeChecks.laidMetH_plain _ _ _ (by kernel_rfl)] at h0
  refine ⟨⟨tab_blank h0.tail.tail.tail.tail.tail.tail, tab_pow h0.tail.tail⟩, ?_, ?_⟩
  · exact err_var (g := (Tryd.prog.globalNamed "strconv.ErrSyntax").getD 0) h0.tail.tail.tail.tail (by kernel_rfl) (by kernel_rfl)
  · exact err_var (g := (Tryd.prog.globalNamed "strconv.ErrRange").getD 0) h0.tail.tail.tail (by kernel_rfl) (by kernel_rfl)

end

end Go.Proofs.YthdicdkgfmiepaaDoor
