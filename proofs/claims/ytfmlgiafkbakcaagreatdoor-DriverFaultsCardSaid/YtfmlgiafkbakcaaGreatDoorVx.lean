/- Calls of the library that are known by their contracts: texts sought in texts, fields; what a world's package variables keep. -/
import Derived.Test.YtfmlgiafkbakcaaGreatDoorVg
import Derived.Lib.IndexMore
import Derived.Lib.Fields
import Derived.Lib.ItoaNum
import Derived.Lib.Atoi
namespace Go.Proofs.YtfmlgiafkbakcaaGreatDoor.Ev
open Go.RowKit

/-! ### package variables stay -/

/-- these blocks are as they were, and none of ours to write -/
def keepG (w0 : World) (gs : List Nat) : Keep where
  ok h ι w := ∀ g ∈ gs, g < w.heap.size ∧ ¬ Owned h ι g ∧ w.heap[g]? = w0.heap[g]?
  step := fun {h ι w h' ι' w'} h2 s g hg => by
    obtain ⟨h1, h3, h4⟩ := h2 g hg
    refine ⟨Nat.lt_of_lt_of_le h1 s.size, fun ho => ?_, by rw [s.blk g h1 h3, h4]⟩
    rcases s.own g ho with h5 | h5
    · omega
    · exact h3 h5

theorem keepG_start (w0 : World) {gs : List Nat} (h : ∀ g ∈ gs, g < w0.heap.size) : (keepG w0 gs).ok ⟨.nil, 0⟩ (fun _ => none) w0 :=
  fun g hg => ⟨h g hg, fun ⟨id, l, h1, _⟩ => (by cases h1), rfl⟩

theorem keepG_cell {w0 w : World} {gs : List Nat} {g i : Nat} {h : H} {ι : Io} (hk : (keepG w0 gs).ok h ι w) (hg : g ∈ gs) : w.cell? ⟨g, i, none⟩ = w0.cell? ⟨g, i, none⟩ := by
  have := (hk g hg).2.2
  unfold World.cell?
  simp only [this]

theorem keepG_var {P : Program} {w0 w : World} {gs : List Nat} {g : Nat} {h : H} {ι : Io} (hk : (keepG w0 gs).ok h ι w) {name : String} (hn : P.globalNamed name = some g) (hg : g ∈ gs) : w.var? P name = w0.var? P name := by
  have := (hk g hg).2.2
  unfold World.var?
  rw [hn]
  simp only [Option.bind_some, this]

theorem cell_lt {w : World} {g i : Nat} {v : Value} (h : w.cell? ⟨g, i, none⟩ = some v) : g < w.heap.size := by
  refine Nat.lt_of_not_le fun hg => ?_
  unfold World.cell? at h
  simp only [Array.getElem?_eq_none hg] at h
  cases h

theorem var_lt {P : Program} {w : World} {g : Nat} {name : String} (hn : P.globalNamed name = some g) {cs : Array Value} (h : w.var? P name = some cs) : g < w.heap.size := by
  refine Nat.lt_of_not_le fun hg => ?_
  unfold World.var? at h
  rw [hn] at h
  simp only [Option.bind_some, Array.getElem?_eq_none hg] at h
  cases h

/-! ### a text within a text -/

/-- where k, of m bytes, begins in n, of l bytes -/
def idxN (m k : Nat) : Nat → Nat → Option Nat
  | l, n => match Nat.ble m l && Nat.beq (Nat.mod n (Nat.pow 256 m)) k with
    | true => some 0
    | false => match l with
      | 0 => none
      | l' + 1 => match idxN m k l' (Nat.div n 256) with
        | some i => some (Nat.succ i)
        | none => none

def ofIdx : Option Nat → Int
  | some i => .ofNat i
  | none => -1

theorem isPrefixOf_decS : ∀ (m k l n : Nat), k < 256 ^ m → (decS m k).isPrefixOf (decS l n) = (Nat.ble m l && Nat.beq (Nat.mod n (Nat.pow 256 m)) k)
  | 0, k, l, n, hk => by
    have : k = 0 := by simpa using hk
    subst this
    have h1 : Nat.ble 0 l = true := by simp
    have h2 : Nat.mod n (Nat.pow 256 0) = 0 := by show n % 256 ^ 0 = 0; omega
    rw [h1, h2]
    simp [decS]
  | m + 1, k, 0, n, _ => by
    have : Nat.ble (m + 1) 0 = false := rfl
    simp [decS, this]
  | m + 1, k, l + 1, n, hk => by
    have ih := isPrefixOf_decS m (k / 256) l (n / 256) (by rw [Nat.pow_succ] at hk; omega)
    have hb : Nat.ble (m + 1) (l + 1) = Nat.ble m l := rfl
    simp only [decS, List.isPrefixOf, ih, hb]
    have e1 : Nat.mod (n / 256) (Nat.pow 256 m) = n / 256 % 256 ^ m := rfl
    have e2 : Nat.mod n (Nat.pow 256 (m + 1)) = n % 256 ^ (m + 1) := rfl
    rw [e1, e2]
    have h3 : n % 256 ^ (m + 1) = n % 256 + 256 * (n / 256 % 256 ^ m) := by
      rw [Nat.pow_succ, Nat.mul_comm (256 ^ m) 256, Nat.mod_mul]
    have h4 : (UInt8.ofNat (k % 256) == UInt8.ofNat (n % 256)) = Nat.beq (n % 256) (k % 256) := by
      rw [Bool.eq_iff_iff]
      simp only [beq_iff_eq, Nat.beq_eq]
      constructor
      · intro h
        have := congrArg UInt8.toNat h
        simp only [UInt8.toNat_ofNat'] at this
        omega
      · intro h
        rw [h]
    rw [h4, h3, Bool.eq_iff_iff]
    simp only [Bool.and_eq_true, Nat.beq_eq]
    constructor
    · rintro ⟨h5, h6, h7⟩
      exact ⟨h6, by omega⟩
    · rintro ⟨h6, h7⟩
      refine ⟨by omega, h6, by omega⟩

theorem idxN_ok {m k : Nat} (hk : k < 256 ^ m) : ∀ (l n : Nat), Lib.index (decS l n) (decS m k) = ofIdx (idxN m k l n)
  | 0, n => by
    have hp := isPrefixOf_decS m k 0 n hk
    unfold idxN
    rw [← hp]
    cases m with
    | zero => simp [decS, Lib.index, ofIdx]
    | succ m => simp [decS, Lib.index, ofIdx]
  | l + 1, n => by
    have hp := isPrefixOf_decS m k (l + 1) n hk
    have ih := idxN_ok hk l (n / 256)
    unfold idxN
    rw [← hp]
    simp only [decS] at hp ⊢
    unfold Lib.index
    cases hc : (decS m k).isPrefixOf (UInt8.ofNat (n % 256) :: decS l (n / 256)) with
    | true => simp [ofIdx]
    | false =>
      simp only [Bool.false_eq_true, if_false, ih]
      have e : Nat.div n 256 = n / 256 := rfl
      rw [e]
      cases hi : idxN m k l (n / 256) with
      | none => simp [ofIdx]
      | some i =>
        have hne : ¬ ((ofIdx (some i) == -1) = true) := by
          simp only [ofIdx, beq_iff_eq, Int.ofNat_eq_natCast]
          omega
        rw [if_neg hne]
        simp [ofIdx]

theorem index_byte (c : UInt8) : ∀ l : List UInt8, Lib.indexByte l c = Lib.index l [c]
  | [] => rfl
  | b :: l => by
    have ih := index_byte c l
    unfold Lib.indexByte Lib.index
    rw [ih]
    have : [c].isPrefixOf (b :: l) = (b == c) := by
      simp only [List.isPrefixOf, Bool.and_true]
      exact Bool.beq_comm
    rw [this]

section
variable {P : Program} {K : Keep}

/-- a text that is in a text -/
def kContains (args : AV) (h : H) : Option (AV × H) := match args with
  | .cons (.str l n) (.cons (.str m k) .nil) => match Nat.blt l 4294967281 with
    | true => some (.bool (match idxN m k l n with
      | some _ => true
      | none => false), h)
    | false => none
  | _ => none

theorem kContains_ok {f : FuncId} (hc : ∀ (s sub : ByteArray) (h : H) (ι : Io) (w : World), K.ok h ι w → s.size < 4294967281 → Calls P f #[.string s, .string sub] w fun e w' => e = .returned (.bool (Lib.contains s.data.toList sub.data.toList)) ∧ w' = w)
    {args : AV} {h : H} {v : AV} {h' : H} (hr : kContains args h = some (v, h')) : SoundCall P K f args h v h' := by
  unfold kContains at hr
  split at hr
  case h_2 => cases hr
  rename_i l n m k
  split at hr
  case h_2 => cases hr
  rename_i hl
  injection hr with hr
  injection hr with e1 e2
  subst e1 e2
  intro ι w vs hh hK hv
  obtain ⟨v1, m1, hvs, ⟨rfl, hn⟩, v2, m2, rfl, ⟨rfl, hk⟩, rfl⟩ := hv
  obtain rfl : vs = #[.string (strV l n), .string (strV m k)] := by rw [← Array.toList_inj, hvs]
  have hlen : ∀ l n, (decS l n).length = l := fun l => by
    induction l with
    | zero => intro n; rfl
    | succ l ih => intro n; simp [decS, ih]
  refine (hc (strV l n) (strV m k) h ι w hK ?_).mono fun e w' ⟨he, hw⟩ => ?_
  · show (decS l n).toArray.size < _
    rw [List.size_toArray, hlen]
    simpa using hl
  · subst hw
    refine ⟨ι, _, he, ?_, hh, Stp.refl _ _ _⟩
    show Value.bool _ = Value.bool _
    congr 1
    have : Lib.contains (decS l n) (decS m k) = decide (0 ≤ Lib.index (decS l n) (decS m k)) := rfl
    show Lib.contains (decS l n) (decS m k) = _
    rw [this, idxN_ok hk]
    cases idxN m k l n with
    | none => rfl
    | some i => simp [ofIdx]

/-- a byte's place in a text -/
def kIndexByte (args : AV) (h : H) : Option (AV × H) := match args with
  | .cons (.str l n) (.cons (.int .u8 (.ofNat c)) .nil) => match Nat.blt c 256 with
    | true => match idxN 1 c l n with
      | some i => some (forceN i fun i => .int .i64 (.ofNat i), h)
      | none => some (.int .i64 (.negSucc 0), h)
    | false => none
  | _ => none

theorem kIndexByte_ok {f : FuncId} (hc : ∀ (s : ByteArray) (c : Int) (w : World), Calls P f #[.string s, .int .u8 c] w fun e w' => e = .returned (.int .i64 (Lib.indexByte s.data.toList c.toNat.toUInt8)) ∧ w' = w)
    {args : AV} {h : H} {v : AV} {h' : H} (hr : kIndexByte args h = some (v, h')) : SoundCall P K f args h v h' := by
  unfold kIndexByte at hr
  split at hr
  case h_2 => cases hr
  rename_i l n c
  split at hr
  case h_2 => cases hr
  rename_i hlt
  have hlt : c < 256 := by simpa using hlt
  intro ι w vs hh hK hv
  obtain ⟨v1, m1, hvs, ⟨rfl, hn⟩, v2, m2, rfl, hv2, rfl⟩ := hv
  have hv2 : v2 = .int .u8 (Int.ofNat c) := hv2
  subst hv2
  obtain rfl : vs = #[.string (strV l n), .int .u8 (Int.ofNat c)] := by rw [← Array.toList_inj, hvs]
  have hix := idxN_ok (m := 1) (k := c) (by omega) l n
  have hd : decS 1 c = [c.toUInt8] := by
    simp only [decS]
    congr 1
    rw [Nat.mod_eq_of_lt hlt]
  rw [hd, ← index_byte] at hix
  refine (hc (strV l n) (Int.ofNat c) w).mono fun e w' ⟨he, hw⟩ => ?_
  subst hw
  have he' : e = .returned (.int .i64 (ofIdx (idxN 1 c l n))) := by
    rw [he, ← hix]
    rfl
  split at hr
  · rename_i i hi
    injection hr with hr
    injection hr with e1 e2
    subst e1 e2
    rw [hi] at he'
    refine ⟨ι, _, he', ?_, hh, Stp.refl _ _ _⟩
    show VR ι (forceN i fun i => AV.int .i64 (.ofNat i)) (.int .i64 (ofIdx (some i)))
    cases i <;> rfl
  · rename_i hi
    injection hr with hr
    injection hr with e1 e2
    subst e1 e2
    rw [hi] at he'
    exact ⟨ι, _, he', rfl, hh, Stp.refl _ _ _⟩

/-- where a text begins in a text -/
def kIndex (args : AV) (h : H) : Option (AV × H) := match args with
  | .cons (.str l n) (.cons (.str m k) .nil) => match Nat.blt l 4294967281 with
    | true => match idxN m k l n with
      | some i => some (forceN i fun i => .int .i64 (.ofNat i), h)
      | none => some (.int .i64 (.negSucc 0), h)
    | false => none
  | _ => none

theorem kIndex_ok {f : FuncId} (hc : ∀ (s sub : ByteArray) (h : H) (ι : Io) (w : World), K.ok h ι w → s.size < 4294967281 → Calls P f #[.string s, .string sub] w fun e w' => e = .returned (.int .i64 (Lib.index s.data.toList sub.data.toList)) ∧ w' = w)
    {args : AV} {h : H} {v : AV} {h' : H} (hr : kIndex args h = some (v, h')) : SoundCall P K f args h v h' := by
  unfold kIndex at hr
  split at hr
  case h_2 => cases hr
  rename_i l n m k
  split at hr
  case h_2 => cases hr
  rename_i hl
  intro ι w vs hh hK hv
  obtain ⟨v1, m1, hvs, ⟨rfl, hn⟩, v2, m2, rfl, ⟨rfl, hk⟩, rfl⟩ := hv
  obtain rfl : vs = #[.string (strV l n), .string (strV m k)] := by rw [← Array.toList_inj, hvs]
  refine (hc (strV l n) (strV m k) h ι w hK ?_).mono fun e w' ⟨he, hw⟩ => ?_
  · show (decS l n).toArray.size < _
    rw [List.size_toArray, decS_len]
    simpa using hl
  · subst hw
    have he' : e = .returned (.int .i64 (ofIdx (idxN m k l n))) := by
      rw [he, ← idxN_ok hk]
      rfl
    split at hr
    · rename_i i hi
      injection hr with hr
      injection hr with e1 e2
      subst e1 e2
      rw [hi] at he'
      refine ⟨ι, _, he', ?_, hh, Stp.refl _ _ _⟩
      show VR ι (forceN i fun i => AV.int .i64 (.ofNat i)) (.int .i64 (ofIdx (some i)))
      cases i <;> rfl
    · rename_i hi
      injection hr with hr
      injection hr with e1 e2
      subst e1 e2
      rw [hi] at he'
      exact ⟨ι, _, he', rfl, hh, Stp.refl _ _ _⟩

/-- a world that has grown -/
theorem HR.below {h : H} {ι : Io} {w w' : World} (hh : HR h ι w) (hb : Below w.heap.size w w') : HR h ι w' ∧ Stp h ι w h ι w' := by
  obtain ⟨h1, h2, h3, h4, h5⟩ := hb
  refine ⟨⟨fun id o ho => (hh.obj id o ho).ext (Ext.refl _) fun l hl => h5 _ (hh.lt id l hl), hh.share, hh.fresh, fun id l hl => Nat.lt_of_lt_of_le (hh.lt id l hl) h4⟩, ⟨Ext.refl _, h4, fun g hg _ => h5 g hg, fun g hg => .inr hg, h1, h2, h3, Nat.le_refl _, fun id l a b => by rw [b] at a; cases a⟩⟩

/-- a small number's numeral -/
def kItoa (args : AV) (h : H) : Option (AV × H) := match args with
  | .cons (.int .i64 (.ofNat n)) .nil => match Nat.blt n 10 with
    | true => some (forceN (Nat.add 48 n) fun a => .str 1 a, h)
    | false => match Nat.blt n 100 with
      | true => some (forceN (Nat.add (Nat.add 48 (Nat.div n 10)) (Nat.mul 256 (Nat.add 48 (Nat.mod n 10)))) fun a => .str 2 a, h)
      | false => none
  | _ => none

theorem kItoa_ok {f : FuncId} (hc : ∀ (i : Nat) (w : World), i < 100 → Calls P f #[.int .i64 i] w fun e w' => e = .returned (.string ⟨(Lib.decDigits i).toArray⟩) ∧ w' = w)
    {args : AV} {h : H} {v : AV} {h' : H} (hr : kItoa args h = some (v, h')) : SoundCall P K f args h v h' := by
  unfold kItoa at hr
  split at hr
  case h_2 => cases hr
  rename_i n
  intro ι w vs hh hK hv
  obtain ⟨v1, m1, hvs, hv1, rfl⟩ := hv
  have hv1 : v1 = .int .i64 (Int.ofNat n) := hv1
  subst hv1
  obtain rfl : vs = #[.int .i64 (Int.ofNat n)] := by rw [← Array.toList_inj, hvs]
  have hb : ∀ d : Nat, d < 10 → UInt8.ofNat ((48 + d) % 256) = UInt8.ofNat (48 + d) := fun d hd => by rw [Nat.mod_eq_of_lt (by omega)]
  split at hr
  · rename_i hlt
    have hlt : n < 10 := by simpa using hlt
    rw [forceN_eq] at hr
    injection hr with hr
    injection hr with e1 e2
    subst e1 e2
    refine (hc n w (by omega)).mono fun e w' ⟨he, hw⟩ => ?_
    subst hw
    refine ⟨ι, _, he, ⟨?_, ?_⟩, hh, Stp.refl _ _ _⟩
    · have : Lib.decDigits n = decS 1 (Nat.add 48 n) := by
        rw [Lib.decDigits, dif_pos hlt]
        show _ = [UInt8.ofNat ((48 + n) % 256)]
        rw [hb n hlt]
      rw [this]
      rfl
    · show 48 + n < 256 ^ 1
      omega
  · split at hr
    case h_2 => cases hr
    have hge : ¬ n < 10 := fun h => by
      have : Nat.blt n 10 = true := by simpa using h
      simp_all
    rename_i hlt
    have hlt : n < 100 := by simpa using hlt
    rw [forceN_eq] at hr
    injection hr with hr
    injection hr with e1 e2
    subst e1 e2
    refine (hc n w hlt).mono fun e w' ⟨he, hw⟩ => ?_
    subst hw
    have e0 : Nat.add (Nat.add 48 (Nat.div n 10)) (Nat.mul 256 (Nat.add 48 (Nat.mod n 10))) = 48 + n / 10 + 256 * (48 + n % 10) := rfl
    refine ⟨ι, _, he, ⟨?_, ?_⟩, hh, Stp.refl _ _ _⟩
    · have : Lib.decDigits n = decS 2 (48 + n / 10 + 256 * (48 + n % 10)) := by
        rw [Lib.decDigits, dif_neg hge, Lib.decDigits, dif_pos (show n / 10 < 10 by omega)]
        have d1 : (48 + n / 10 + 256 * (48 + n % 10)) % 256 = 48 + n / 10 := by omega
        have d2 : (48 + n / 10 + 256 * (48 + n % 10)) / 256 % 256 = 48 + n % 10 := by omega
        show _ = [UInt8.ofNat ((48 + n / 10 + 256 * (48 + n % 10)) % 256), UInt8.ofNat ((48 + n / 10 + 256 * (48 + n % 10)) / 256 % 256)]
        rw [d1, d2]
        rfl
      rw [this, e0]
      rfl
    · rw [e0]
      show _ < 256 ^ 2
      omega

/-- a numeral's number -/
def kAtoi (args : AV) (h : H) : Option (AV × H) := match args with
  | .cons (.str l n) .nil => match Nat.ble l 18 with
    | true => match Lib.atoi (decS l n) with
      | some k => some (.tup (.cons (mkI .i64 k) (.cons .nili .nil)), h)
      | none => none
    | false => none
  | _ => none

theorem kAtoi_ok {f : FuncId} (hc : ∀ (s : ByteArray) (n : Int) (w : World), s.size ≤ 18 → Lib.atoi s.data.toList = some n → Calls P f #[.string s] w fun e w' => e = .returned (.tuple #[.int .i64 n, .nilIface]) ∧ Below w.heap.size w w')
    {args : AV} {h : H} {v : AV} {h' : H} (hr : kAtoi args h = some (v, h')) : SoundCall P K f args h v h' := by
  unfold kAtoi at hr
  split at hr
  case h_2 => cases hr
  rename_i l n
  split at hr
  case h_2 => cases hr
  rename_i hl
  split at hr
  case h_2 => cases hr
  rename_i k hk
  rw [mkI_eq] at hr
  injection hr with hr
  injection hr with e1 e2
  subst e1 e2
  intro ι w vs hh hK hv
  obtain ⟨v1, m1, hvs, ⟨rfl, hn⟩, rfl⟩ := hv
  obtain rfl : vs = #[.string (strV l n)] := by rw [← Array.toList_inj, hvs]
  refine (hc (strV l n) k w ?_ hk).mono fun e w' ⟨he, hb⟩ => ?_
  · show (decS l n).toArray.size ≤ 18
    rw [List.size_toArray, decS_len]
    simpa using hl
  · obtain ⟨h1, h2⟩ := hh.below hb
    exact ⟨ι, _, he, ⟨[.int .i64 k, .nilIface], rfl, ⟨_, _, rfl, rfl, _, _, rfl, rfl, rfl⟩⟩, h1, h2⟩

/-- texts in a row -/
def strsA : List (List UInt8) → AV
  | [] => .nil
  | l :: ls => .cons (.str l.length (encS l)) (strsA ls)

def ascii : List UInt8 → Bool
  | [] => true
  | b :: l => match Nat.blt b.toNat 128 with
    | true => ascii l
    | false => false

/-- a text's fields -/
def kFields (args : AV) (h : H) : Option (AV × H) := match args with
  | .cons (.str l n) .nil => match Nat.blt l 4294967281 && ascii (decS l n) with
    | true => match Lib.fields (decS l n), h with
      | fs, ⟨o, k⟩ => forceN fs.length fun z => some (.sl k 0 z 1 true, ⟨o.set (some (.cells (Tr.nil.putL 0 (strsA fs)) z true [])) k, Nat.succ k⟩)
    | false => none
  | _ => none

theorem strsA_len : ∀ l : List (List UInt8), (strsA l).length = l.length
  | [] => rfl
  | _ :: l => by simp [strsA, AV.length, strsA_len l]

theorem strsA_ok (ι : Io) : ∀ l : List (List UInt8), VRl ι (strsA l) (l.map fun l => Value.string ⟨l.toArray⟩)
  | [] => rfl
  | a :: l => ⟨_, _, rfl, ⟨by simp only [strV, decS_encS], encS_lt a⟩, strsA_ok ι l⟩

theorem ascii_ok : ∀ {l : List UInt8}, ascii l = true → ∀ (j : Nat) b, l[j]? = some b → b.toNat < 128
  | [], _, j, b, h => by simp at h
  | a :: l, h, j, b, hj => by
    simp only [ascii] at h
    split at h
    case h_2 => cases h
    rename_i ha
    cases j with
    | zero =>
      simp only [List.getElem?_cons_zero, Option.some.injEq] at hj
      subst hj
      simpa using ha
    | succ j => exact ascii_ok h j b (by simpa using hj)

theorem kFields_ok {f : FuncId} {t : TypeId} (hc : ∀ (s : ByteArray) (h : H) (ι : Io) (w : World), K.ok h ι w → s.size < 4294967281 → (∀ (j : Nat) b, s.data.toList[j]? = some b → b.toNat < 128) → Calls P f #[.string s] w fun e w' =>
      e = .returned (.slice (some ⟨w.heap.size, 0, none⟩) (Lib.fields s.data.toList).length (Lib.fields s.data.toList).length) ∧ w' = w.alloc (.cells ((Lib.fields s.data.toList).map fun l => Value.string ⟨l.toArray⟩).toArray t))
    {args : AV} {h : H} {v : AV} {h' : H} (hr : kFields args h = some (v, h')) : SoundCall P K f args h v h' := by
  unfold kFields at hr
  split at hr
  case h_2 => cases hr
  rename_i l n
  split at hr
  case h_2 => cases hr
  rename_i hl
  simp only [Bool.and_eq_true] at hl
  obtain ⟨hl, ha⟩ := hl
  obtain ⟨o, k⟩ := h
  simp only at hr
  generalize hfs : Lib.fields (decS l n) = fs at hr
  have hr' : v = .sl k 0 fs.length 1 true ∧ h' = ⟨o.set (some (.cells (Tr.nil.putL 0 (strsA fs)) fs.length true [])) k, Nat.succ k⟩ := by
    cases hz : fs.length <;> rw [hz] at hr <;> simp only [forceN, Option.some.injEq, Prod.mk.injEq] at hr <;> exact ⟨hr.1.symm, hr.2.symm⟩
  obtain ⟨rfl, rfl⟩ := hr'
  intro ι w vs hh hK hv
  obtain ⟨v1, m1, hvs, ⟨rfl, hn⟩, rfl⟩ := hv
  obtain rfl : vs = #[.string (strV l n)] := by rw [← Array.toList_inj, hvs]
  have hlen : ∀ l n, (decS l n).length = l := fun l => by
    induction l with
    | zero => intro n; rfl
    | succ l ih => intro n; simp [decS, ih]
  refine (hc (strV l n) ⟨o, k⟩ ι w hK ?_ (ascii_ok ha)).mono fun e w' ⟨he, hw⟩ => ?_
  · show (decS l n).toArray.size < _
    rw [List.size_toArray, hlen]
    simpa using hl
  have hfs' : Lib.fields (strV l n).data.toList = fs := hfs
  rw [hfs'] at he hw
  subst hw
  obtain ⟨p1, p2⟩ := hh.newCells (w' := w.alloc (.cells (fs.map fun l => Value.string ⟨l.toArray⟩).toArray t)) (Tr.nil.putL 0 (strsA fs)) fs.length (fs.map fun l => Value.string ⟨l.toArray⟩).toArray t rfl rfl rfl rfl (by simp) fun i a hi ha => by
    have h1 := Tr.get_putL_in (strsA fs) .nil 0 i (by rw [strsA_len]; exact hi)
    rw [Nat.zero_add, ha] at h1
    obtain ⟨u, h2, h3⟩ := VRl.nth i (strsA_ok ι fs) h1.symm
    refine ⟨u, by simpa using h2, h3, ?_⟩
    rw [List.getElem?_map] at h2
    cases hf : fs[i]? with
    | none => rw [hf] at h2; cases h2
    | some q =>
      rw [hf] at h2
      injection h2 with h2
      subst h2
      rfl
  refine ⟨_, _, he, ?_, p1, p2⟩
  exact ⟨_, _, _, upd_same, rfl, Nat.le_refl _, fun _ => rfl, fun _ => rfl, by simp⟩

/-- room in a slice that is nil -/
def kGrow (z : Nat) (args : AV) (h : H) : Option (AV × H) := match args, h with
  | .cons .nils (.cons (.int .i64 (.ofNat n)) .nil), ⟨o, k⟩ => match Nat.blt 0 n && Nat.ble n 100000 with
    | true => some (.sl k 0 0 z false, ⟨o.set (some (.cells .nil 0 true [])) k, Nat.succ k⟩)
    | false => none
  | _, _ => none

theorem kGrow_ok {f : FuncId} {z : Nat} (hc : ∀ (n : Nat) (w : World), 0 < n → n ≤ 100000 → Calls P f #[.slice none 0 0, .int .i64 n] w fun e w' => ∃ (G : Nat) (C : Array Value) (t : TypeId), e = .returned (.slice (some ⟨w.heap.size, 0, none⟩) 0 G) ∧ C.size = G * z ∧ w'.heap = w.heap.push (.cells C t) ∧ w'.os = w.os ∧ w'.tape = w.tape ∧ w'.output = w.output)
    {args : AV} {h : H} {v : AV} {h' : H} (hr : kGrow z args h = some (v, h')) : SoundCall P K f args h v h' := by
  unfold kGrow at hr
  split at hr
  case h_2 => cases hr
  rename_i n o k
  split at hr
  case h_2 => cases hr
  rename_i hn
  simp only [Bool.and_eq_true, Nat.blt_eq, Nat.ble_eq] at hn
  injection hr with hr
  injection hr with e1 e2
  subst e1 e2
  intro ι w vs hh hK hv
  obtain ⟨v1, m1, hvs, hv1, v2, m2, rfl, hv2, rfl⟩ := hv
  have hv1 : v1 = .slice none 0 0 := hv1
  have hv2 : v2 = .int .i64 (Int.ofNat n) := hv2
  subst hv1 hv2
  obtain rfl : vs = #[.slice none 0 0, .int .i64 (Int.ofNat n)] := by rw [← Array.toList_inj, hvs]
  refine (hc n w hn.1 hn.2).mono fun e w' ⟨G, C, t, he, hs, hw, h1, h2, h3⟩ => ?_
  obtain ⟨p1, p2⟩ := hh.newCells (w' := w') .nil 0 C t hw h1 h2 h3 (Nat.zero_le _) fun i a hi _ => absurd hi (Nat.not_lt_zero _)
  refine ⟨_, _, he, ?_, p1, p2⟩
  exact ⟨_, _, G, upd_same, rfl, Nat.zero_le _, fun h => (by cases h), fun _ => rfl, by simp [hs]⟩

end
end Go.Proofs.YtfmlgiafkbakcaaGreatDoor.Ev
