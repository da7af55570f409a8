/- lex.Tokens walked. -/
import Derived.Test.YtfkoginkafmcpaaLexE
import Derived.Test.YtfkoginkafmcpaaLexQ
import Derived.Test.YtfkoginkafmcpaaTok
import Derived.Outline
namespace Go.Proofs.Ytfkoginkafmcpaa
open Go.RowKit

/-- what lex.Tokens gives, in memory -/
def TokensPost (B : Nat) (w : World) (r : List Tok × Int × Int) (e : Ending) (w' : World) : Prop :=
  ∃ v : Value, e = .returned (.tuple #[v, .agg #[.int .i64 r.2.1, .int .i64 r.2.2]]) ∧ TokRow w' B v r.1 ∧ Below B w w'

/-- what holds at each head of the loop -/
def TokensRel (B : Nat) (w : World) (s : ByteArray) (v i : Value) (wr : World) : Prop :=
  ∃ (p : Nat) (ts : List Tok) (f : Nat), i = .int .i64 p ∧ p ≤ s.size ∧ wr.ownsRow B 34 4 v ts.length (flat ts) ∧ ts.length ≤ p ∧ Below B w wr ∧ BlkIs wr B 26 #[.int .i64 0, .int .i64 0] ∧ s.size - p < f ∧
    scanL f (s.data.toList.drop p) p ts = tokensT s.data.toList

set_option maxHeartbeats 1000000 in
theorem tokens_long (s : ByteArray) (hs : 2000 < s.size) (w : World) (hb : s.size ≤ 9223372036854775807) :
    Calls Try.prog 7 #[.string s] w (TokensPost w.heap.size w ([], 2, 0)) := by
  go_enter Try.func7, Try.ntmps7
  go_wp2_with fail
  refine bodyPost_ret (v := .tuple #[.slice none 0 0, .agg #[.int .i64 2, .int .i64 0]]) (by simp [results, Try.results7, go_sem]) rfl ⟨_, rfl, TokRow.nil _ _, below_alloc _ _⟩

set_option maxHeartbeats 1000000 in
theorem tokens_any (s : ByteArray) (hs : s.size ≤ 2000) (w : World) (m : Int) (hm : w.cell? ⟨0, 0, none⟩ = some (.int .i64 m)) (h0 : 0 < w.heap.size) :
    Calls Try.prog 7 #[.string s] w (TokensPost w.heap.size w (tokensT s.data.toList)) := by
  obtain ⟨i0, hi0, hz0, hz1, hz2⟩ := info_parts tok_info
  have hle : rl isBlank s.data.toList ≤ s.size := by have := rl_le isBlank s.data.toList; simpa using this
  have HT : Hid (tokensT s.data.toList = scanL (s.size + 1) (s.data.toList.drop (rl isBlank s.data.toList)) (rl isBlank s.data.toList) []) := by
    refine Lib.hid ?_
    unfold tokensT; rw [if_neg (by simp; omega)]; simp
  go_enter Try.func7, Try.ntmps7
  go_wp2_with (go_at_call 13; refine (runBlank _ (by omega) _).mono ?_; rintro e w' ⟨rfl, rfl⟩)
  go_loopw [4, 5] (fun v i wr => TokensRel w.heap.size w s v i wr) (fun _ i _ => s.size - (intOf i).toNat)
  case atStart => exact ⟨_, [], s.size + 1, rfl, hle, ⟨by simp [flat], .inl ⟨rfl, rfl⟩⟩, by simp, below_alloc _ _, BlkIs.fresh _ _ _, by omega, HT.out.symm⟩
  case round =>
    obtain ⟨p, ts, f, rfl, hp, hown, hlen, hbw, hblk, hf, hsc⟩ := hrel
    have HS := Lib.hid hsc
    clear hsc
    by_cases hlt : p < s.size
    · have hd := Lib.hid (drop_at s p hlt)
      have hbz := hblk.lt
      go_wp2_with fail
      refine (token_any (s.extract p s.size) (by simp; omega) (by simp; omega) _ m (by rw [hbw.cell (by exact h0)]; exact hm) (by omega)).mono ?_
      rintro e w1 ⟨rfl, hb1⟩
      have hx : tokenL (s.extract p s.size).data.toList = asL (tokenT (s.data.toList.drop p)) := by rw [ext_drop]; rfl
      rw [hx]
      have hn := tokenT_le (s.data.toList.drop p)
      have hn1 := tokenT_pos s[p] (s.data.toList.drop (p + 1))
      rw [← hd.out] at hn1
      obtain ⟨⟨⟨kd, tx, nn, ps⟩, n, er⟩, hr⟩ : ∃ r, tokenT (s.data.toList.drop p) = r := ⟨_, rfl⟩
      rw [hr] at hn hn1 ⊢
      have HR := Lib.hid hr
      clear hr hx
      simp only [asL, Tok.val, tokVal]
      simp at hn hn1
      have hblk1 := hblk.below hb1 hbz
      have c0 := hblk1.cell 0
      have c1 := hblk1.cell 1
      simp at c0 c1
      have f0 := hblk1.frozen 0
      have f1 := hblk1.frozen 1
      have hz1' := hb1.size
      have hz1'' := hblk1.lt
      by_cases he : er = 0
      · subst he
        have hn1 := hn1 rfl
        have hown1 := own_below hown hb1
        go_wp2_with (at_builtin; refine wpList_append_own _ rfl (.tmp 34) (.tmp 36) 24 rfl w.heap.size 34 i0 _ 4 40 Try.underlying24 hi0 hz0 hz1 hz2 rfl (by decide) _ _ _ rfl ((hown1.alloc _).alloc _) ⟨w1.heap.size + 1, 0, none⟩ 1 1 [.int .i64 kd, .string ⟨tx.toArray⟩, .int .i64 nn, .int .i64 p] rfl rfl ?c1 (tok_one _ _ _ _) ?c3 ?c4 ?c5 ?_)
        case c3 => unfold maxLen; omega
        case c4 => omega
        case c5 => (try simp); omega
        intro v2 w2 hown2 hg2 _
        have hblk2 : BlkIs w2 w.heap.size 26 #[.int .i64 0, .int .i64 0] := ((hblk1.alloc _).alloc _).grown hg2 (own_ne_blk hown1 hblk1 (by decide))
        have hbw2 : Below w.heap.size w w2 := by
          refine Below.grown (Below.alloc (Below.alloc (hbw.trans (hb1.mono (by omega))) (by omega) _) (by simp; omega) _) hg2 (by simp; omega) ?_
          exact own_block_ge hown1
        clear hown1 hown c0 c1 f0 f1
        go_wp2_with fail
        refine (runBlank _ (by simp; omega) _).mono ?_
        rintro e w' ⟨rfl, rfl⟩
        have hy : rl isBlank (s.extract (p + n) s.size).data.toList = rl isBlank (s.data.toList.drop (p + n)) := by rw [ext_drop]
        rw [hy]
        have hy2 := rl_le isBlank (s.data.toList.drop (p + n))
        simp at hy2
        clear hy
        go_wp2_with fail
        go_roundw
        case rel =>
          obtain ⟨f', rfl⟩ : ∃ f', f = f' + 1 := ⟨f - 1, by omega⟩
          refine ⟨p + n + rl isBlank (s.data.toList.drop (p + n)), ts ++ [⟨kd, tx, nn, p⟩], f', by go_num, by omega, ?_, by simp; omega, hbw2, hblk2, by omega, ?_⟩
          · rw [List.length_append, flat_snoc]; exact hown2
          · have := HS.out
            rw [hd.out, scanL, ← hd.out, HR.out] at this
            simpa [List.drop_drop, Nat.add_assoc] using this
        case measure => simp [intOf]; omega
      · have he1 : (er == 0) = false := by simpa using he
        have he2 : (er != 0) = true := by simpa using he
        have HE : Hid (tokensT s.data.toList = ([], er, (p : Int))) := by
          refine Lib.hid ?_
          obtain ⟨f', rfl⟩ : ∃ f', f = f' + 1 := ⟨f - 1, by omega⟩
          have := HS.out
          rw [hd.out, scanL, ← hd.out, HR.out] at this
          rw [← this, if_neg (by exact he)]
        clear he
        go_wp2_with fail
        refine bodyPost_ret (v := .tuple #[.slice none 0 0, .agg #[.int .i64 er, .int .i64 p]]) (by simp [results, Try.results7, go_sem, c0, c1, hblk1.lt]) rfl ?_
        rw [HE.out]
        refine ⟨_, rfl, TokRow.nil _ _, ?_⟩
        have hb0 : Below w.heap.size w w1 := hbw.trans (hb1.mono (by omega))
        repeat (first | exact hb0 | refine Below.drew ?_ | refine Below.setCell ?_ (by simp) _ | refine Below.alloc ?_ (by simp; omega) _)
    · obtain rfl : p = s.size := by omega
      have hbz := hblk.lt
      have HE : Hid (tokensT s.data.toList = (ts ++ [⟨0, [], 0, (s.size : Int)⟩], 0, 0)) := by
        refine Lib.hid ?_
        obtain ⟨f', rfl⟩ : ∃ f', f = f' + 1 := ⟨f - 1, by omega⟩
        have := HS.out
        rw [List.drop_of_length_le (by simp), scanL] at this
        exact this.symm
      go_wp2_with (at_builtin; refine wpList_append_own _ rfl (.tmp 47) (.tmp 51) 24 rfl w.heap.size 34 i0 _ 4 40 Try.underlying24 hi0 hz0 hz1 hz2 rfl (by decide) _ _ _ rfl (hown.alloc _) ⟨wr.heap.size, 0, none⟩ 1 1 [.int .i64 0, .string ⟨#[]⟩, .int .i64 0, .int .i64 s.size] rfl rfl ?d1 (tok_one _ _ _ _) ?d3 ?d4 ?d5 ?_)
      case d1 => exact (BlkIs.fresh _ _ _).cells rfl
      case d3 => unfold maxLen; omega
      case d4 => omega
      case d5 => (try simp); omega
      intro v' w2 hown2 hg2 _
      have hblk2 : BlkIs w2 w.heap.size 26 #[.int .i64 0, .int .i64 0] := (hblk.alloc _).grown hg2 (own_ne_blk hown hblk (by decide))
      have hbw2 : Below w.heap.size w w2 := Below.grown (Below.alloc hbw (by omega) _) hg2 (by simp; omega) (own_block_ge hown)
      have c0 := hblk2.cell 0
      have c1 := hblk2.cell 1
      simp at c0 c1
      have f0 := hblk2.frozen 0
      have f1 := hblk2.frozen 1
      have hz2' := hblk2.lt
      go_wp2_with fail
      refine bodyPost_ret (v := .tuple #[v', .agg #[.int .i64 0, .int .i64 0]]) (by simp [results, Try.results7, go_sem, c0, c1]) rfl ?_
      rw [HE.out]
      refine ⟨_, rfl, ?_, ?_⟩
      · unfold TokRow; rw [List.length_append, flat_snoc]
        exact own_far (own_far hown2 (own_ne_blk hown2 hblk2 (by decide)) _) (own_ne_blk hown2 hblk2 (by decide)) _
      · repeat (first | exact hbw2 | refine Below.drew ?_ | refine Below.setCell ?_ (by simp) _ | refine Below.alloc ?_ (by simp; omega) _)

end Go.Proofs.Ytfkoginkafmcpaa
