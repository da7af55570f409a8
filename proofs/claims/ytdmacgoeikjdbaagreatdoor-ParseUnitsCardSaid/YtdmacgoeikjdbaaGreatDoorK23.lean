/- The reference's parser: how tight signs bind (symbolic execution). Pri -/
import Derived.Test.YtdmacgoeikjdbaaGreatDoorK22
set_option linter.unusedSimpArgs false
set_option linter.unusedVariables false
set_option maxHeartbeats 8000000
namespace Go.Proofs.YtdmacgoeikjdbaaGreatDoor
open Go.RowKit Sx
def cfLevel0:Cfg:=⟨[],[(100 * 100 + 6,8),(100 * 89 + 1,8),(100 * 89 + 2,9),(100 * 56 + 4,1),(100 * 60 + 4,6),(100 * 60 + 5,9),(100 * 60 + 6,6)],[],sOne,[22,105,145,146],[]⟩
def TLevel0:Tree:=tW <| tW <| tW <| tW <| tW <| tW <| tW <| tW <| tW <| tW <| tW <| tW <| tW <| tW <| tW <| tW <| tW <| tW <| tW <| tW <| tW <| tW <| .nd (.pv (.bin .eql) [.c (.string ⟨#[124,124]⟩),.v 1]) <| .ite 2 (.ret [jI 32] []) (.ret [jI 0] [])
theorem TLevel0_eq:fnS Tryz.prog cfLevel0 [.con (.int .i64 0),.one] 126=some TLevel0:=by kernel_rfl
theorem level0_ok (x:List UInt8) (g:Nat) (gv fv:Value) (σ:RH) (w:World) (okk:Nat→Prop) (K:List Value→List D→RH→Prop) (hG:g<w.heap.size) (hR:RR g gv fv σ w) (hokk:∀ k,okk k→g<k) (hK:K [.int .i64 (rlevel 0 x)] [] σ) :
  Calls Tryz.prog 126 #[.int .i64 0,strB x] w (PostC g gv fv sOne okk w K):=by
 refine fn_ok (cf:=cfLevel0) [] rfl mixed RR.stable TLevel0_eq (W:=fun args ds σ' K=>args=[.int .i64 0,strB x]∧ds=[]∧σ'=σ∧K [.int .i64 (rlevel 0 x)] [] σ)
  (fun args ds σ K hW=>by obtain ⟨rfl,_⟩:=hW;exact ⟨⟨rfl,rfl⟩,rfl,trivial⟩) ?_ [.int .i64 0,strB x] [] σ w _ _ hG hR hokk (daOk_nil _ _ _) (by simp [Sx.flat,Value.cells,Value.oneCell']) ⟨rfl,rfl,rfl,hK⟩
 rintro args ds σ' K ⟨rfl,rfl,rfl,hK⟩ _
 show Tree.holds _ _ _ _ (⟨[.int .i64 0,strB x],[],[],σ'⟩:Env RH)
 refine h_new fun g1=>?_
 refine h_new fun g2=>?_
 refine h_new fun g3=>?_
 refine h_new fun g4=>?_
 refine h_new fun g5=>?_
 refine h_new fun g6=>?_
 refine h_new fun g7=>?_
 refine h_new fun g8=>?_
 refine h_new fun g9=>?_
 refine h_new fun g10=>?_
 refine h_new fun g11=>?_
 refine h_new fun g12=>?_
 refine h_new fun g13=>?_
 refine h_new fun g14=>?_
 refine h_new fun g15=>?_
 refine h_new fun g16=>?_
 refine h_new fun g17=>?_
 refine h_new fun g18=>?_
 refine h_new fun g19=>?_
 refine h_new fun g20=>?_
 refine h_new fun g21=>?_
 refine h_new fun g22=>?_
 refine h_pv rfl rfl ?_
 try simp only [aS,hdd.2]
 refine h_ite rfl (fun q24=>?_) (fun q24=>?_)
 ·skip
  simp at q24
  have e:rlevel 0 x=32:=by simp [rlevel,levels,lookS,q24]
  rw [e] at hK
  exact h_ret rfl rfl hK
 ·skip
  simp at q24
  have e:rlevel 0 x=0:=by simp [rlevel,levels,lookS,q24]
  rw [e] at hK
  exact h_ret rfl rfl hK
def cfLevel1:Cfg:=⟨[],[(100 * 100 + 6,8),(100 * 89 + 1,8),(100 * 89 + 2,9),(100 * 56 + 4,1),(100 * 60 + 4,6),(100 * 60 + 5,9),(100 * 60 + 6,6)],[],sOne,[22,105,145,146],[]⟩
def TLevel1:Tree:=tW <| tW <| tW <| tW <| tW <| tW <| tW <| tW <| tW <| tW <| tW <| tW <| tW <| tW <| tW <| tW <| tW <| tW <| tW <| tW <| tW <| tW <| .nd (.pv (.bin .eql) [.c (.string ⟨#[38,38]⟩),.v 1]) <| .ite 2 (.ret [jI 31] []) (.ret [jI 0] [])
theorem TLevel1_eq:fnS Tryz.prog cfLevel1 [.con (.int .i64 1),.one] 126=some TLevel1:=by kernel_rfl
theorem level1_ok (x:List UInt8) (g:Nat) (gv fv:Value) (σ:RH) (w:World) (okk:Nat→Prop) (K:List Value→List D→RH→Prop) (hG:g<w.heap.size) (hR:RR g gv fv σ w) (hokk:∀ k,okk k→g<k) (hK:K [.int .i64 (rlevel 1 x)] [] σ) :
  Calls Tryz.prog 126 #[.int .i64 1,strB x] w (PostC g gv fv sOne okk w K):=by
 refine fn_ok (cf:=cfLevel1) [] rfl mixed RR.stable TLevel1_eq (W:=fun args ds σ' K=>args=[.int .i64 1,strB x]∧ds=[]∧σ'=σ∧K [.int .i64 (rlevel 1 x)] [] σ)
  (fun args ds σ K hW=>by obtain ⟨rfl,_⟩:=hW;exact ⟨⟨rfl,rfl⟩,rfl,trivial⟩) ?_ [.int .i64 1,strB x] [] σ w _ _ hG hR hokk (daOk_nil _ _ _) (by simp [Sx.flat,Value.cells,Value.oneCell']) ⟨rfl,rfl,rfl,hK⟩
 rintro args ds σ' K ⟨rfl,rfl,rfl,hK⟩ _
 show Tree.holds _ _ _ _ (⟨[.int .i64 1,strB x],[],[],σ'⟩:Env RH)
 refine h_new fun g1=>?_
 refine h_new fun g2=>?_
 refine h_new fun g3=>?_
 refine h_new fun g4=>?_
 refine h_new fun g5=>?_
 refine h_new fun g6=>?_
 refine h_new fun g7=>?_
 refine h_new fun g8=>?_
 refine h_new fun g9=>?_
 refine h_new fun g10=>?_
 refine h_new fun g11=>?_
 refine h_new fun g12=>?_
 refine h_new fun g13=>?_
 refine h_new fun g14=>?_
 refine h_new fun g15=>?_
 refine h_new fun g16=>?_
 refine h_new fun g17=>?_
 refine h_new fun g18=>?_
 refine h_new fun g19=>?_
 refine h_new fun g20=>?_
 refine h_new fun g21=>?_
 refine h_new fun g22=>?_
 refine h_pv rfl rfl ?_
 try simp only [aS,hdd.2]
 refine h_ite rfl (fun q24=>?_) (fun q24=>?_)
 ·skip
  simp at q24
  have e:rlevel 1 x=31:=by simp [rlevel,levels,lookS,q24]
  rw [e] at hK
  exact h_ret rfl rfl hK
 ·skip
  simp at q24
  have e:rlevel 1 x=0:=by simp [rlevel,levels,lookS,q24]
  rw [e] at hK
  exact h_ret rfl rfl hK
def cfLevel2:Cfg:=⟨[],[(100 * 100 + 6,8),(100 * 89 + 1,8),(100 * 89 + 2,9),(100 * 56 + 4,1),(100 * 60 + 4,6),(100 * 60 + 5,9),(100 * 60 + 6,6)],[],sOne,[22,105,145,146],[]⟩
def TLevel2:Tree:=tW <| tW <| tW <| tW <| tW <| tW <| tW <| tW <| tW <| tW <| tW <| tW <| tW <| tW <| tW <| tW <| tW <| tW <| tW <| tW <| tW <| tW <| .nd (.pv (.bin .eql) [.c (.string ⟨#[124]⟩),.v 1]) <| .ite 2 (.ret [jI 30] []) (.ret [jI 0] [])
theorem TLevel2_eq:fnS Tryz.prog cfLevel2 [.con (.int .i64 2),.one] 126=some TLevel2:=by kernel_rfl
theorem level2_ok (x:List UInt8) (g:Nat) (gv fv:Value) (σ:RH) (w:World) (okk:Nat→Prop) (K:List Value→List D→RH→Prop) (hG:g<w.heap.size) (hR:RR g gv fv σ w) (hokk:∀ k,okk k→g<k) (hK:K [.int .i64 (rlevel 2 x)] [] σ) :
  Calls Tryz.prog 126 #[.int .i64 2,strB x] w (PostC g gv fv sOne okk w K):=by
 refine fn_ok (cf:=cfLevel2) [] rfl mixed RR.stable TLevel2_eq (W:=fun args ds σ' K=>args=[.int .i64 2,strB x]∧ds=[]∧σ'=σ∧K [.int .i64 (rlevel 2 x)] [] σ)
  (fun args ds σ K hW=>by obtain ⟨rfl,_⟩:=hW;exact ⟨⟨rfl,rfl⟩,rfl,trivial⟩) ?_ [.int .i64 2,strB x] [] σ w _ _ hG hR hokk (daOk_nil _ _ _) (by simp [Sx.flat,Value.cells,Value.oneCell']) ⟨rfl,rfl,rfl,hK⟩
 rintro args ds σ' K ⟨rfl,rfl,rfl,hK⟩ _
 show Tree.holds _ _ _ _ (⟨[.int .i64 2,strB x],[],[],σ'⟩:Env RH)
 refine h_new fun g1=>?_
 refine h_new fun g2=>?_
 refine h_new fun g3=>?_
 refine h_new fun g4=>?_
 refine h_new fun g5=>?_
 refine h_new fun g6=>?_
 refine h_new fun g7=>?_
 refine h_new fun g8=>?_
 refine h_new fun g9=>?_
 refine h_new fun g10=>?_
 refine h_new fun g11=>?_
 refine h_new fun g12=>?_
 refine h_new fun g13=>?_
 refine h_new fun g14=>?_
 refine h_new fun g15=>?_
 refine h_new fun g16=>?_
 refine h_new fun g17=>?_
 refine h_new fun g18=>?_
 refine h_new fun g19=>?_
 refine h_new fun g20=>?_
 refine h_new fun g21=>?_
 refine h_new fun g22=>?_
 refine h_pv rfl rfl ?_
 try simp only [aS,hdd.2]
 refine h_ite rfl (fun q24=>?_) (fun q24=>?_)
 ·skip
  simp at q24
  have e:rlevel 2 x=30:=by simp [rlevel,levels,lookS,q24]
  rw [e] at hK
  exact h_ret rfl rfl hK
 ·skip
  simp at q24
  have e:rlevel 2 x=0:=by simp [rlevel,levels,lookS,q24]
  rw [e] at hK
  exact h_ret rfl rfl hK
def cfLevel3:Cfg:=⟨[],[(100 * 100 + 6,8),(100 * 89 + 1,8),(100 * 89 + 2,9),(100 * 56 + 4,1),(100 * 60 + 4,6),(100 * 60 + 5,9),(100 * 60 + 6,6)],[],sOne,[22,105,145,146],[]⟩
def TLevel3:Tree:=tW <| tW <| tW <| tW <| tW <| tW <| tW <| tW <| tW <| tW <| tW <| tW <| tW <| tW <| tW <| tW <| tW <| tW <| tW <| tW <| tW <| tW <| .nd (.pv (.bin .eql) [.c (.string ⟨#[94]⟩),.v 1]) <| .ite 2 (.ret [jI 29] []) (.ret [jI 0] [])
theorem TLevel3_eq:fnS Tryz.prog cfLevel3 [.con (.int .i64 3),.one] 126=some TLevel3:=by kernel_rfl
theorem level3_ok (x:List UInt8) (g:Nat) (gv fv:Value) (σ:RH) (w:World) (okk:Nat→Prop) (K:List Value→List D→RH→Prop) (hG:g<w.heap.size) (hR:RR g gv fv σ w) (hokk:∀ k,okk k→g<k) (hK:K [.int .i64 (rlevel 3 x)] [] σ) :
  Calls Tryz.prog 126 #[.int .i64 3,strB x] w (PostC g gv fv sOne okk w K):=by
 refine fn_ok (cf:=cfLevel3) [] rfl mixed RR.stable TLevel3_eq (W:=fun args ds σ' K=>args=[.int .i64 3,strB x]∧ds=[]∧σ'=σ∧K [.int .i64 (rlevel 3 x)] [] σ)
  (fun args ds σ K hW=>by obtain ⟨rfl,_⟩:=hW;exact ⟨⟨rfl,rfl⟩,rfl,trivial⟩) ?_ [.int .i64 3,strB x] [] σ w _ _ hG hR hokk (daOk_nil _ _ _) (by simp [Sx.flat,Value.cells,Value.oneCell']) ⟨rfl,rfl,rfl,hK⟩
 rintro args ds σ' K ⟨rfl,rfl,rfl,hK⟩ _
 show Tree.holds _ _ _ _ (⟨[.int .i64 3,strB x],[],[],σ'⟩:Env RH)
 refine h_new fun g1=>?_
 refine h_new fun g2=>?_
 refine h_new fun g3=>?_
 refine h_new fun g4=>?_
 refine h_new fun g5=>?_
 refine h_new fun g6=>?_
 refine h_new fun g7=>?_
 refine h_new fun g8=>?_
 refine h_new fun g9=>?_
 refine h_new fun g10=>?_
 refine h_new fun g11=>?_
 refine h_new fun g12=>?_
 refine h_new fun g13=>?_
 refine h_new fun g14=>?_
 refine h_new fun g15=>?_
 refine h_new fun g16=>?_
 refine h_new fun g17=>?_
 refine h_new fun g18=>?_
 refine h_new fun g19=>?_
 refine h_new fun g20=>?_
 refine h_new fun g21=>?_
 refine h_new fun g22=>?_
 refine h_pv rfl rfl ?_
 try simp only [aS,hdd.2]
 refine h_ite rfl (fun q24=>?_) (fun q24=>?_)
 ·skip
  simp at q24
  have e:rlevel 3 x=29:=by simp [rlevel,levels,lookS,q24]
  rw [e] at hK
  exact h_ret rfl rfl hK
 ·skip
  simp at q24
  have e:rlevel 3 x=0:=by simp [rlevel,levels,lookS,q24]
  rw [e] at hK
  exact h_ret rfl rfl hK
def cfLevel4:Cfg:=⟨[],[(100 * 100 + 6,8),(100 * 89 + 1,8),(100 * 89 + 2,9),(100 * 56 + 4,1),(100 * 60 + 4,6),(100 * 60 + 5,9),(100 * 60 + 6,6)],[],sOne,[22,105,145,146],[]⟩
def TLevel4:Tree:=tW <| tW <| tW <| tW <| tW <| tW <| tW <| tW <| tW <| tW <| tW <| tW <| tW <| tW <| tW <| tW <| tW <| tW <| tW <| tW <| tW <| tW <| .nd (.pv (.bin .eql) [.c (.string ⟨#[38]⟩),.v 1]) <| .ite 2 (.ret [jI 28] []) (.ret [jI 0] [])
theorem TLevel4_eq:fnS Tryz.prog cfLevel4 [.con (.int .i64 4),.one] 126=some TLevel4:=by kernel_rfl
theorem level4_ok (x:List UInt8) (g:Nat) (gv fv:Value) (σ:RH) (w:World) (okk:Nat→Prop) (K:List Value→List D→RH→Prop) (hG:g<w.heap.size) (hR:RR g gv fv σ w) (hokk:∀ k,okk k→g<k) (hK:K [.int .i64 (rlevel 4 x)] [] σ) :
  Calls Tryz.prog 126 #[.int .i64 4,strB x] w (PostC g gv fv sOne okk w K):=by
 refine fn_ok (cf:=cfLevel4) [] rfl mixed RR.stable TLevel4_eq (W:=fun args ds σ' K=>args=[.int .i64 4,strB x]∧ds=[]∧σ'=σ∧K [.int .i64 (rlevel 4 x)] [] σ)
  (fun args ds σ K hW=>by obtain ⟨rfl,_⟩:=hW;exact ⟨⟨rfl,rfl⟩,rfl,trivial⟩) ?_ [.int .i64 4,strB x] [] σ w _ _ hG hR hokk (daOk_nil _ _ _) (by simp [Sx.flat,Value.cells,Value.oneCell']) ⟨rfl,rfl,rfl,hK⟩
 rintro args ds σ' K ⟨rfl,rfl,rfl,hK⟩ _
 show Tree.holds _ _ _ _ (⟨[.int .i64 4,strB x],[],[],σ'⟩:Env RH)
 refine h_new fun g1=>?_
 refine h_new fun g2=>?_
 refine h_new fun g3=>?_
 refine h_new fun g4=>?_
 refine h_new fun g5=>?_
 refine h_new fun g6=>?_
 refine h_new fun g7=>?_
 refine h_new fun g8=>?_
 refine h_new fun g9=>?_
 refine h_new fun g10=>?_
 refine h_new fun g11=>?_
 refine h_new fun g12=>?_
 refine h_new fun g13=>?_
 refine h_new fun g14=>?_
 refine h_new fun g15=>?_
 refine h_new fun g16=>?_
 refine h_new fun g17=>?_
 refine h_new fun g18=>?_
 refine h_new fun g19=>?_
 refine h_new fun g20=>?_
 refine h_new fun g21=>?_
 refine h_new fun g22=>?_
 refine h_pv rfl rfl ?_
 try simp only [aS,hdd.2]
 refine h_ite rfl (fun q24=>?_) (fun q24=>?_)
 ·skip
  simp at q24
  have e:rlevel 4 x=28:=by simp [rlevel,levels,lookS,q24]
  rw [e] at hK
  exact h_ret rfl rfl hK
 ·skip
  simp at q24
  have e:rlevel 4 x=0:=by simp [rlevel,levels,lookS,q24]
  rw [e] at hK
  exact h_ret rfl rfl hK
def cfLevel5:Cfg:=⟨[],[(100 * 100 + 6,8),(100 * 89 + 1,8),(100 * 89 + 2,9),(100 * 56 + 4,1),(100 * 60 + 4,6),(100 * 60 + 5,9),(100 * 60 + 6,6)],[],sOne,[22,105,145,146],[]⟩
def TLevel5:Tree:=tW <| tW <| tW <| tW <| tW <| tW <| tW <| tW <| tW <| tW <| tW <| tW <| tW <| tW <| tW <| tW <| tW <| tW <| tW <| tW <| tW <| tW <| .nd (.pv (.bin .eql) [.c (.string ⟨#[61,61]⟩),.v 1]) <| .ite 2 (.ret [jI 26] []) (.nd (.pv (.bin .eql) [.c (.string ⟨#[33,61]⟩),.v 1]) <| .ite 3 (.ret [jI 27] []) (.ret [jI 0] []))
theorem TLevel5_eq:fnS Tryz.prog cfLevel5 [.con (.int .i64 5),.one] 126=some TLevel5:=by kernel_rfl
theorem level5_ok (x:List UInt8) (g:Nat) (gv fv:Value) (σ:RH) (w:World) (okk:Nat→Prop) (K:List Value→List D→RH→Prop) (hG:g<w.heap.size) (hR:RR g gv fv σ w) (hokk:∀ k,okk k→g<k) (hK:K [.int .i64 (rlevel 5 x)] [] σ) :
  Calls Tryz.prog 126 #[.int .i64 5,strB x] w (PostC g gv fv sOne okk w K):=by
 refine fn_ok (cf:=cfLevel5) [] rfl mixed RR.stable TLevel5_eq (W:=fun args ds σ' K=>args=[.int .i64 5,strB x]∧ds=[]∧σ'=σ∧K [.int .i64 (rlevel 5 x)] [] σ)
  (fun args ds σ K hW=>by obtain ⟨rfl,_⟩:=hW;exact ⟨⟨rfl,rfl⟩,rfl,trivial⟩) ?_ [.int .i64 5,strB x] [] σ w _ _ hG hR hokk (daOk_nil _ _ _) (by simp [Sx.flat,Value.cells,Value.oneCell']) ⟨rfl,rfl,rfl,hK⟩
 rintro args ds σ' K ⟨rfl,rfl,rfl,hK⟩ _
 show Tree.holds _ _ _ _ (⟨[.int .i64 5,strB x],[],[],σ'⟩:Env RH)
 refine h_new fun g1=>?_
 refine h_new fun g2=>?_
 refine h_new fun g3=>?_
 refine h_new fun g4=>?_
 refine h_new fun g5=>?_
 refine h_new fun g6=>?_
 refine h_new fun g7=>?_
 refine h_new fun g8=>?_
 refine h_new fun g9=>?_
 refine h_new fun g10=>?_
 refine h_new fun g11=>?_
 refine h_new fun g12=>?_
 refine h_new fun g13=>?_
 refine h_new fun g14=>?_
 refine h_new fun g15=>?_
 refine h_new fun g16=>?_
 refine h_new fun g17=>?_
 refine h_new fun g18=>?_
 refine h_new fun g19=>?_
 refine h_new fun g20=>?_
 refine h_new fun g21=>?_
 refine h_new fun g22=>?_
 refine h_pv rfl rfl ?_
 try simp only [aS,hdd.2]
 refine h_ite rfl (fun q24=>?_) (fun q24=>?_)
 ·skip
  simp at q24
  have e:rlevel 5 x=26:=by simp [rlevel,levels,lookS,q24]
  rw [e] at hK
  exact h_ret rfl rfl hK
 ·skip
  simp at q24
  refine h_pv rfl rfl ?_
  try simp only [aS,hdd.2]
  refine h_ite rfl (fun q26=>?_) (fun q26=>?_)
  ·skip
   simp at q26
   have e:rlevel 5 x=27:=by simp [rlevel,levels,lookS,q24,q26]
   rw [e] at hK
   exact h_ret rfl rfl hK
  ·skip
   simp at q26
   have e:rlevel 5 x=0:=by simp [rlevel,levels,lookS,q24,q26]
   rw [e] at hK
   exact h_ret rfl rfl hK
def cfLevel6:Cfg:=⟨[],[(100 * 100 + 6,8),(100 * 89 + 1,8),(100 * 89 + 2,9),(100 * 56 + 4,1),(100 * 60 + 4,6),(100 * 60 + 5,9),(100 * 60 + 6,6)],[],sOne,[22,105,145,146],[]⟩
def TLevel6:Tree:=tW <| tW <| tW <| tW <| tW <| tW <| tW <| tW <| tW <| tW <| tW <| tW <| tW <| tW <| tW <| tW <| tW <| tW <| tW <| tW <| tW <| tW <| .nd (.pv (.bin .eql) [.c (.string ⟨#[60]⟩),.v 1]) <| .ite 2 (.ret [jI 22] []) (.nd (.pv (.bin .eql) [.c (.string ⟨#[62]⟩),.v 1]) <| .ite 3 (.ret [jI 24] []) (.nd (.pv (.bin .eql) [.c (.string ⟨#[60,61]⟩),.v 1]) <| .ite 4 (.ret [jI 23] []) (.nd (.pv (.bin .eql) [.c (.string ⟨#[62,61]⟩),.v 1]) <| .ite 5 (.ret [jI 25] []) (.ret [jI 0] []))))
theorem TLevel6_eq:fnS Tryz.prog cfLevel6 [.con (.int .i64 6),.one] 126=some TLevel6:=by kernel_rfl
theorem level6_ok (x:List UInt8) (g:Nat) (gv fv:Value) (σ:RH) (w:World) (okk:Nat→Prop) (K:List Value→List D→RH→Prop) (hG:g<w.heap.size) (hR:RR g gv fv σ w) (hokk:∀ k,okk k→g<k) (hK:K [.int .i64 (rlevel 6 x)] [] σ) :
  Calls Tryz.prog 126 #[.int .i64 6,strB x] w (PostC g gv fv sOne okk w K):=by
 refine fn_ok (cf:=cfLevel6) [] rfl mixed RR.stable TLevel6_eq (W:=fun args ds σ' K=>args=[.int .i64 6,strB x]∧ds=[]∧σ'=σ∧K [.int .i64 (rlevel 6 x)] [] σ)
  (fun args ds σ K hW=>by obtain ⟨rfl,_⟩:=hW;exact ⟨⟨rfl,rfl⟩,rfl,trivial⟩) ?_ [.int .i64 6,strB x] [] σ w _ _ hG hR hokk (daOk_nil _ _ _) (by simp [Sx.flat,Value.cells,Value.oneCell']) ⟨rfl,rfl,rfl,hK⟩
 rintro args ds σ' K ⟨rfl,rfl,rfl,hK⟩ _
 show Tree.holds _ _ _ _ (⟨[.int .i64 6,strB x],[],[],σ'⟩:Env RH)
 refine h_new fun g1=>?_
 refine h_new fun g2=>?_
 refine h_new fun g3=>?_
 refine h_new fun g4=>?_
 refine h_new fun g5=>?_
 refine h_new fun g6=>?_
 refine h_new fun g7=>?_
 refine h_new fun g8=>?_
 refine h_new fun g9=>?_
 refine h_new fun g10=>?_
 refine h_new fun g11=>?_
 refine h_new fun g12=>?_
 refine h_new fun g13=>?_
 refine h_new fun g14=>?_
 refine h_new fun g15=>?_
 refine h_new fun g16=>?_
 refine h_new fun g17=>?_
 refine h_new fun g18=>?_
 refine h_new fun g19=>?_
 refine h_new fun g20=>?_
 refine h_new fun g21=>?_
 refine h_new fun g22=>?_
 refine h_pv rfl rfl ?_
 try simp only [aS,hdd.2]
 refine h_ite rfl (fun q24=>?_) (fun q24=>?_)
 ·skip
  simp at q24
  have e:rlevel 6 x=22:=by simp [rlevel,levels,lookS,q24]
  rw [e] at hK
  exact h_ret rfl rfl hK
 ·skip
  simp at q24
  refine h_pv rfl rfl ?_
  try simp only [aS,hdd.2]
  refine h_ite rfl (fun q26=>?_) (fun q26=>?_)
  ·skip
   simp at q26
   have e:rlevel 6 x=24:=by simp [rlevel,levels,lookS,q24,q26]
   rw [e] at hK
   exact h_ret rfl rfl hK
  ·skip
   simp at q26
   refine h_pv rfl rfl ?_
   try simp only [aS,hdd.2]
   refine h_ite rfl (fun q28=>?_) (fun q28=>?_)
   ·skip
    simp at q28
    have e:rlevel 6 x=23:=by simp [rlevel,levels,lookS,q24,q26,q28]
    rw [e] at hK
    exact h_ret rfl rfl hK
   ·skip
    simp at q28
    refine h_pv rfl rfl ?_
    try simp only [aS,hdd.2]
    refine h_ite rfl (fun q30=>?_) (fun q30=>?_)
    ·skip
     simp at q30
     have e:rlevel 6 x=25:=by simp [rlevel,levels,lookS,q24,q26,q28,q30]
     rw [e] at hK
     exact h_ret rfl rfl hK
    ·skip
     simp at q30
     have e:rlevel 6 x=0:=by simp [rlevel,levels,lookS,q24,q26,q28,q30]
     rw [e] at hK
     exact h_ret rfl rfl hK
def cfLevel7:Cfg:=⟨[],[(100 * 100 + 6,8),(100 * 89 + 1,8),(100 * 89 + 2,9),(100 * 56 + 4,1),(100 * 60 + 4,6),(100 * 60 + 5,9),(100 * 60 + 6,6)],[],sOne,[22,105,145,146],[]⟩
def TLevel7:Tree:=tW <| tW <| tW <| tW <| tW <| tW <| tW <| tW <| tW <| tW <| tW <| tW <| tW <| tW <| tW <| tW <| tW <| tW <| tW <| tW <| tW <| tW <| .nd (.pv (.bin .eql) [.c (.string ⟨#[60,60]⟩),.v 1]) <| .ite 2 (.ret [jI 20] []) (.nd (.pv (.bin .eql) [.c (.string ⟨#[62,62]⟩),.v 1]) <| .ite 3 (.ret [jI 21] []) (.ret [jI 0] []))
theorem TLevel7_eq:fnS Tryz.prog cfLevel7 [.con (.int .i64 7),.one] 126=some TLevel7:=by kernel_rfl
theorem level7_ok (x:List UInt8) (g:Nat) (gv fv:Value) (σ:RH) (w:World) (okk:Nat→Prop) (K:List Value→List D→RH→Prop) (hG:g<w.heap.size) (hR:RR g gv fv σ w) (hokk:∀ k,okk k→g<k) (hK:K [.int .i64 (rlevel 7 x)] [] σ) :
  Calls Tryz.prog 126 #[.int .i64 7,strB x] w (PostC g gv fv sOne okk w K):=by
 refine fn_ok (cf:=cfLevel7) [] rfl mixed RR.stable TLevel7_eq (W:=fun args ds σ' K=>args=[.int .i64 7,strB x]∧ds=[]∧σ'=σ∧K [.int .i64 (rlevel 7 x)] [] σ)
  (fun args ds σ K hW=>by obtain ⟨rfl,_⟩:=hW;exact ⟨⟨rfl,rfl⟩,rfl,trivial⟩) ?_ [.int .i64 7,strB x] [] σ w _ _ hG hR hokk (daOk_nil _ _ _) (by simp [Sx.flat,Value.cells,Value.oneCell']) ⟨rfl,rfl,rfl,hK⟩
 rintro args ds σ' K ⟨rfl,rfl,rfl,hK⟩ _
 show Tree.holds _ _ _ _ (⟨[.int .i64 7,strB x],[],[],σ'⟩:Env RH)
 refine h_new fun g1=>?_
 refine h_new fun g2=>?_
 refine h_new fun g3=>?_
 refine h_new fun g4=>?_
 refine h_new fun g5=>?_
 refine h_new fun g6=>?_
 refine h_new fun g7=>?_
 refine h_new fun g8=>?_
 refine h_new fun g9=>?_
 refine h_new fun g10=>?_
 refine h_new fun g11=>?_
 refine h_new fun g12=>?_
 refine h_new fun g13=>?_
 refine h_new fun g14=>?_
 refine h_new fun g15=>?_
 refine h_new fun g16=>?_
 refine h_new fun g17=>?_
 refine h_new fun g18=>?_
 refine h_new fun g19=>?_
 refine h_new fun g20=>?_
 refine h_new fun g21=>?_
 refine h_new fun g22=>?_
 refine h_pv rfl rfl ?_
 try simp only [aS,hdd.2]
 refine h_ite rfl (fun q24=>?_) (fun q24=>?_)
 ·skip
  simp at q24
  have e:rlevel 7 x=20:=by simp [rlevel,levels,lookS,q24]
  rw [e] at hK
  exact h_ret rfl rfl hK
 ·skip
  simp at q24
  refine h_pv rfl rfl ?_
  try simp only [aS,hdd.2]
  refine h_ite rfl (fun q26=>?_) (fun q26=>?_)
  ·skip
   simp at q26
   have e:rlevel 7 x=21:=by simp [rlevel,levels,lookS,q24,q26]
   rw [e] at hK
   exact h_ret rfl rfl hK
  ·skip
   simp at q26
   have e:rlevel 7 x=0:=by simp [rlevel,levels,lookS,q24,q26]
   rw [e] at hK
   exact h_ret rfl rfl hK
def cfLevel8:Cfg:=⟨[],[(100 * 100 + 6,8),(100 * 89 + 1,8),(100 * 89 + 2,9),(100 * 56 + 4,1),(100 * 60 + 4,6),(100 * 60 + 5,9),(100 * 60 + 6,6)],[],sOne,[22,105,145,146],[]⟩
def TLevel8:Tree:=tW <| tW <| tW <| tW <| tW <| tW <| tW <| tW <| tW <| tW <| tW <| tW <| tW <| tW <| tW <| tW <| tW <| tW <| tW <| tW <| tW <| tW <| .nd (.pv (.bin .eql) [.c (.string ⟨#[43]⟩),.v 1]) <| .ite 2 (.ret [jI 18] []) (.nd (.pv (.bin .eql) [.c (.string ⟨#[45]⟩),.v 1]) <| .ite 3 (.ret [jI 19] []) (.ret [jI 0] []))
theorem TLevel8_eq:fnS Tryz.prog cfLevel8 [.con (.int .i64 8),.one] 126=some TLevel8:=by kernel_rfl
theorem level8_ok (x:List UInt8) (g:Nat) (gv fv:Value) (σ:RH) (w:World) (okk:Nat→Prop) (K:List Value→List D→RH→Prop) (hG:g<w.heap.size) (hR:RR g gv fv σ w) (hokk:∀ k,okk k→g<k) (hK:K [.int .i64 (rlevel 8 x)] [] σ) :
  Calls Tryz.prog 126 #[.int .i64 8,strB x] w (PostC g gv fv sOne okk w K):=by
 refine fn_ok (cf:=cfLevel8) [] rfl mixed RR.stable TLevel8_eq (W:=fun args ds σ' K=>args=[.int .i64 8,strB x]∧ds=[]∧σ'=σ∧K [.int .i64 (rlevel 8 x)] [] σ)
  (fun args ds σ K hW=>by obtain ⟨rfl,_⟩:=hW;exact ⟨⟨rfl,rfl⟩,rfl,trivial⟩) ?_ [.int .i64 8,strB x] [] σ w _ _ hG hR hokk (daOk_nil _ _ _) (by simp [Sx.flat,Value.cells,Value.oneCell']) ⟨rfl,rfl,rfl,hK⟩
 rintro args ds σ' K ⟨rfl,rfl,rfl,hK⟩ _
 show Tree.holds _ _ _ _ (⟨[.int .i64 8,strB x],[],[],σ'⟩:Env RH)
 refine h_new fun g1=>?_
 refine h_new fun g2=>?_
 refine h_new fun g3=>?_
 refine h_new fun g4=>?_
 refine h_new fun g5=>?_
 refine h_new fun g6=>?_
 refine h_new fun g7=>?_
 refine h_new fun g8=>?_
 refine h_new fun g9=>?_
 refine h_new fun g10=>?_
 refine h_new fun g11=>?_
 refine h_new fun g12=>?_
 refine h_new fun g13=>?_
 refine h_new fun g14=>?_
 refine h_new fun g15=>?_
 refine h_new fun g16=>?_
 refine h_new fun g17=>?_
 refine h_new fun g18=>?_
 refine h_new fun g19=>?_
 refine h_new fun g20=>?_
 refine h_new fun g21=>?_
 refine h_new fun g22=>?_
 refine h_pv rfl rfl ?_
 try simp only [aS,hdd.2]
 refine h_ite rfl (fun q24=>?_) (fun q24=>?_)
 ·skip
  simp at q24
  have e:rlevel 8 x=18:=by simp [rlevel,levels,lookS,q24]
  rw [e] at hK
  exact h_ret rfl rfl hK
 ·skip
  simp at q24
  refine h_pv rfl rfl ?_
  try simp only [aS,hdd.2]
  refine h_ite rfl (fun q26=>?_) (fun q26=>?_)
  ·skip
   simp at q26
   have e:rlevel 8 x=19:=by simp [rlevel,levels,lookS,q24,q26]
   rw [e] at hK
   exact h_ret rfl rfl hK
  ·skip
   simp at q26
   have e:rlevel 8 x=0:=by simp [rlevel,levels,lookS,q24,q26]
   rw [e] at hK
   exact h_ret rfl rfl hK
def cfLevel9:Cfg:=⟨[],[(100 * 100 + 6,8),(100 * 89 + 1,8),(100 * 89 + 2,9),(100 * 56 + 4,1),(100 * 60 + 4,6),(100 * 60 + 5,9),(100 * 60 + 6,6)],[],sOne,[22,105,145,146],[]⟩
def TLevel9:Tree:=tW <| tW <| tW <| tW <| tW <| tW <| tW <| tW <| tW <| tW <| tW <| tW <| tW <| tW <| tW <| tW <| tW <| tW <| tW <| tW <| tW <| tW <| .nd (.pv (.bin .eql) [.c (.string ⟨#[42]⟩),.v 1]) <| .ite 2 (.ret [jI 15] []) (.nd (.pv (.bin .eql) [.c (.string ⟨#[47]⟩),.v 1]) <| .ite 3 (.ret [jI 16] []) (.nd (.pv (.bin .eql) [.c (.string ⟨#[37]⟩),.v 1]) <| .ite 4 (.ret [jI 17] []) (.ret [jI 0] [])))
theorem TLevel9_eq:fnS Tryz.prog cfLevel9 [.con (.int .i64 9),.one] 126=some TLevel9:=by kernel_rfl
theorem level9_ok (x:List UInt8) (g:Nat) (gv fv:Value) (σ:RH) (w:World) (okk:Nat→Prop) (K:List Value→List D→RH→Prop) (hG:g<w.heap.size) (hR:RR g gv fv σ w) (hokk:∀ k,okk k→g<k) (hK:K [.int .i64 (rlevel 9 x)] [] σ) :
  Calls Tryz.prog 126 #[.int .i64 9,strB x] w (PostC g gv fv sOne okk w K):=by
 refine fn_ok (cf:=cfLevel9) [] rfl mixed RR.stable TLevel9_eq (W:=fun args ds σ' K=>args=[.int .i64 9,strB x]∧ds=[]∧σ'=σ∧K [.int .i64 (rlevel 9 x)] [] σ)
  (fun args ds σ K hW=>by obtain ⟨rfl,_⟩:=hW;exact ⟨⟨rfl,rfl⟩,rfl,trivial⟩) ?_ [.int .i64 9,strB x] [] σ w _ _ hG hR hokk (daOk_nil _ _ _) (by simp [Sx.flat,Value.cells,Value.oneCell']) ⟨rfl,rfl,rfl,hK⟩
 rintro args ds σ' K ⟨rfl,rfl,rfl,hK⟩ _
 show Tree.holds _ _ _ _ (⟨[.int .i64 9,strB x],[],[],σ'⟩:Env RH)
 refine h_new fun g1=>?_
 refine h_new fun g2=>?_
 refine h_new fun g3=>?_
 refine h_new fun g4=>?_
 refine h_new fun g5=>?_
 refine h_new fun g6=>?_
 refine h_new fun g7=>?_
 refine h_new fun g8=>?_
 refine h_new fun g9=>?_
 refine h_new fun g10=>?_
 refine h_new fun g11=>?_
 refine h_new fun g12=>?_
 refine h_new fun g13=>?_
 refine h_new fun g14=>?_
 refine h_new fun g15=>?_
 refine h_new fun g16=>?_
 refine h_new fun g17=>?_
 refine h_new fun g18=>?_
 refine h_new fun g19=>?_
 refine h_new fun g20=>?_
 refine h_new fun g21=>?_
 refine h_new fun g22=>?_
 refine h_pv rfl rfl ?_
 try simp only [aS,hdd.2]
 refine h_ite rfl (fun q24=>?_) (fun q24=>?_)
 ·skip
  simp at q24
  have e:rlevel 9 x=15:=by simp [rlevel,levels,lookS,q24]
  rw [e] at hK
  exact h_ret rfl rfl hK
 ·skip
  simp at q24
  refine h_pv rfl rfl ?_
  try simp only [aS,hdd.2]
  refine h_ite rfl (fun q26=>?_) (fun q26=>?_)
  ·skip
   simp at q26
   have e:rlevel 9 x=16:=by simp [rlevel,levels,lookS,q24,q26]
   rw [e] at hK
   exact h_ret rfl rfl hK
  ·skip
   simp at q26
   refine h_pv rfl rfl ?_
   try simp only [aS,hdd.2]
   refine h_ite rfl (fun q28=>?_) (fun q28=>?_)
   ·skip
    simp at q28
    have e:rlevel 9 x=17:=by simp [rlevel,levels,lookS,q24,q26,q28]
    rw [e] at hK
    exact h_ret rfl rfl hK
   ·skip
    simp at q28
    have e:rlevel 9 x=0:=by simp [rlevel,levels,lookS,q24,q26,q28]
    rw [e] at hK
    exact h_ret rfl rfl hK
def conLevel (g:Nat) (gv fv:Value):Con0 Tryz.prog (RR g gv fv) g where
 f:=126
 sh:=sOne
 W args _ σ K:=∃ (n:Nat) (x:List UInt8),n<10∧args=[.int .i64 n,strB x]∧K [.int .i64 (rlevel n x)] [] σ
 ok args ds σ w okk K hg hR hokk _ _ hW:=by
  obtain ⟨n,x,hn,rfl,hK⟩:=hW
  have:n=0 ∨ n=1 ∨ n=2 ∨ n=3 ∨ n=4 ∨ n=5 ∨ n=6 ∨ n=7 ∨ n=8 ∨ n=9:=by omega
  rcases this with rfl | rfl | rfl | rfl | rfl | rfl | rfl | rfl | rfl | rfl
  ·exact level0_ok x g gv fv σ w okk K hg hR hokk hK
  ·exact level1_ok x g gv fv σ w okk K hg hR hokk hK
  ·exact level2_ok x g gv fv σ w okk K hg hR hokk hK
  ·exact level3_ok x g gv fv σ w okk K hg hR hokk hK
  ·exact level4_ok x g gv fv σ w okk K hg hR hokk hK
  ·exact level5_ok x g gv fv σ w okk K hg hR hokk hK
  ·exact level6_ok x g gv fv σ w okk K hg hR hokk hK
  ·exact level7_ok x g gv fv σ w okk K hg hR hokk hK
  ·exact level8_ok x g gv fv σ w okk K hg hR hokk hK
  ·exact level9_ok x g gv fv σ w okk K hg hR hokk hK
theorem w_level {g:Nat} {gv fv:Value} {K:List Value→List D→RH→Prop} {ds:List D} {s:RS} {h0:Hd} {n:Nat} {x:List UInt8} (hn:n<10) (h:K [.int .i64 (rlevel n x)] [] ⟨s,h0⟩):(conLevel g gv fv).W [.int .i64 n,strB x] ds ⟨s,h0⟩ K:=⟨n,x,hn,rfl,h⟩
end Go.Proofs.YtdmacgoeikjdbaaGreatDoor
namespace Go.Proofs.YtdmacgoeikjdbaaGreatDoor
open Go.RowKit Sx
def cfBinary:Cfg:=⟨[(125,sEx),(115,sEx),(40,sOne),(126,sOne),(43,sTok)],[(100 * 100 + 6,8),(100 * 89 + 1,8),(100 * 89 + 2,9),(100 * 56 + 4,1),(100 * 60 + 4,6),(100 * 60 + 5,9),(100 * 60 + 6,6)],[(0,⟨[(0,.el (.one (.v 0))),(1,.el (.one (.v 1))),(2,.el (.one (.v 2))),(6,.el (.one (.p 0 0))),(7,.el (.one (.p 1 0)))],[⟨0,100,xZ⟩,⟨1,100,vsFrom 3 8⟩],[⟨9,0,none⟩],11,2,1,62,[],[]⟩)],sEx,[],[]⟩
def TBinary_34:Tree:=.nd (.call 3 [.one (.v 2),.one (.v 28)] []) <| tB 8 2 [rX 3 0,rX 32 1] <| .again 0 [.v 0,.v 1,.v 2,.v 40,jI 0,jI 0,jI 0,jE,jI 0,.v 41,.v 30] [jD 41 2]
def TBinary_37:Tree:=tB 8 2 [rX 3 0,rX 32 1] <| .nd (.call 3 [.one (.v 2),.one (.v 28)] []) <| .again 0 [.v 0,.v 1,.v 2,.v 41,jI 0,jI 0,jI 0,jE,jI 0,.v 40,.v 30] [jD 40 2]
def Z15:Tree:=tN 0 <| tF 0 19 <| tL 20 1 <| tX 4 21 0 <| tF 1 22 <| tL 23 1 <| .nd (.call 3 [.one (.v 2),.one (.v 24)] []) <| .nd (.pv (.bin .neq) [.v 25,jI 0]) <| .ite 26 (tO 4 <| tW <| tA 2 1 <| .nd (.call 1 [.one (.v 0),.one (.v 1),.one (.v 31)] []) <| tW <| .both TBinary_34 TBinary_37) (.ret [.v 3,.v 4,.v 5,.v 6,.v 7,.v 8,.v 9,.v 10] [jD 9 0])
def Z14:Tree:=tN 0 <| tF 0 12 <| tL 13 1 <| tX 4 14 0 <| tF 0 15 <| tL 16 1 <| tQ 17 3 <| .ite 18 Z15 (.ret [.v 3,.v 4,.v 5,.v 6,.v 7,.v 8,.v 9,.v 10] [jD 9 0])
def Z13:Tree:=tO 2 <| .ite 11 Z14 (.ret [.v 3,.v 4,.v 5,.v 6,.v 7,.v 8,.v 9,.v 10] [jD 9 0])
def Z12:Tree:=tA 2 1 <| .nd (.call 1 [.one (.v 0),.one (.v 1),.one (.v 4)] []) <| tW <| .loop 0 2 [.v 0,.v 1,.v 2,.v 5,.v 6,.v 7,.v 8,.v 9,.v 10,.v 11,.v 12] [jD 11 0] Z13
def TBinary:Tree:=tW <| tQ 2 10 <| .ite 3 (tV 0 1 <| .ret [.v 4,.v 5,.v 6,.v 7,.v 8,.v 9,.v 10,.v 11] [jD 10 0]) Z12
theorem TBinary_eq:fnS Tryz.prog cfBinary [.one,.one,.one] 115=some TBinary:=by kernel_rfl
theorem rbin_step (F:Nat) (ihu:∀ f,f≤F→RUnaryOk f) (ihb:∀ f,f≤F→RBinOk f):RBinOk (F + 1):=by
 intro d n s s' x g gv fv w hn hx hd hr
 obtain ⟨hd0,hr⟩:=hr.rr
 refine ex_of g gv fv (fn_ok (cf:=cfBinary) [(conUnary ihu).x,(conBin ihb).x,(conOk g gv fv).x,(conLevel g gv fv).x,(conNext g gv fv).x] rfl mixed RR.stable TBinary_eq
  (W:=fun args ds σ K=>args=[ptrV g,.int .i64 d,.int .i64 n]∧ds=[]∧σ=⟨s,hd0⟩∧∀ vs ds σ',((∃ A c,vs=exV x A c)∧ds=[kidsD x]∧σ'.s=s')→K vs ds σ')
  (fun args ds σ K hW=>by obtain ⟨rfl,_⟩:=hW;exact ⟨rfl,rfl,rfl,trivial⟩) ?_ [ptrV g,.int .i64 d,.int .i64 n] [] ⟨s,hd0⟩ w _ _ hr.rd.lt hr (fun k h=>h.elim) (daOk_nil _ _ _) (by simp [Sx.flat,Value.cells,Value.oneCell']) ⟨rfl,rfl,rfl,fun vs ds σ' h=>h⟩)
 rintro args ds σ K ⟨rfl,rfl,rfl,hK⟩ _
 have hp0:=hr.1
 have hd1:=hd.1
 have hd2:=hd.2
 have hdd:=deeper hd
 have hn1:IntKind.i64.wrap ((n:Int) + 1)=((n + 1:Nat):Int):=by rw [IntKind.wrap_i64];omega
 rw [rbinary] at hx
 show Tree.holds _ _ _ _ (⟨[ptrV g,.int .i64 d,.int .i64 n],[],[],⟨s,hd0⟩⟩:Env RH)
 refine h_new fun g1=>?_
 refine h_pv rfl rfl ?_
 try simp only [aS,hdd.2,hn1]
 refine h_ite rfl (fun q3=>?_) (fun q3=>?_)
 ·skip
  have qn:n=10:=by have:=q3;simp at this;omega
  rw [if_pos qn] at hx
  try simp only [q3,bne,bS,↓reduceIte] at hx
  try simp only [q3,bne,bS,↓reduceIte] at hx
  refine kc (h:=w_unary (f:=F) (by omega) hx ⟨by omega,by omega⟩ fun A4 c4 h4 p4=>?_)
  try simp only [aS,hdd.2,hn1]
  refine kr (h:=?_)
  exact hK _ _ _ ⟨⟨_,_,rfl⟩,rfl,rfl⟩
 ·skip
  have qn:¬ n=10:=by have:=q3;simp at this;omega
  rw [if_neg qn] at hx
  try simp only [q3,bne,bS,↓reduceIte] at hx
  refine h_pv rfl rfl ?_
  try simp only [aS,hdd.2,hn1]
  try simp only [q3,bne,bS,↓reduceIte] at hx
  obtain ⟨⟨x6,s6⟩,e6,hx⟩:=Option.bind_eq_some_iff.1 hx
  simp only at hx
  refine kc (h:=w_bin (f:=F) (n:=n + 1) (by omega) (by omega) e6 ⟨by omega,by omega⟩ fun A6 c6 h6 p6=>?_)
  try simp only [aS,hdd.2,hn1]
  refine h_new fun g7=>?_
  refine h_loop (fun k vs ds σ=>∃ (a:Ex) (A:Option Addr) (c:Nat),vs=ptrV g :: .int .i64 d :: .int .i64 n :: exV a A c∧ds=[kidsD a]∧0<σ.s.ts.length∧k≤F∧rbinloop k d n a σ.s=some (x,s')) F (by simp only [rowsD,ldens,dens,dens2,T2.den,L.den,CD.den,leafD,rowD,List.getElem?_cons_zero,List.getElem?_cons_succ] <;> rfl) (by simp only [rowsD,ldens,dens,dens2,T2.den,L.den,CD.den,leafD,rowD,List.getElem?_cons_zero,List.getElem?_cons_succ] <;> rfl) (fun vs ds σ ⟨a,A,c,_,_,_,_,h⟩=>by cases h) ⟨_,_,_,rfl,rfl,p6,Nat.le_refl _,hx⟩ ?_
  rintro k vs ds bl ⟨s,h0⟩ hbl ⟨a,A,c,rfl,rfl,hp0,hk,hx⟩
  rw [rbinloop] at hx
  simp only at hx hp0
  try simp only [aS,hdd.2,hn1]
  refine kc (h:=w_ok ?_)
  try simp only [aS,hdd.2,hn1]
  refine h_ite rfl (fun q9=>?_) (fun q9=>?_)
  ·skip
   try simp only [q9,bne,bS,↓reduceIte] at hx
   refine h_pv rfl rfl ?_
   try simp only [aS,hdd.2,hn1]
   refine h_pv rfl rfl ?_
   try simp only [aS,hdd.2,hn1]
   refine h_ld rfl RR.ld0 rfl (hdV_one _ _) ?_
   try simp only [aS,hdd.2,hn1]
   refine h_pv rfl (sem_ia 0 hp0) ?_
   try simp only [aS,hdd.2,hn1]
   refine h_pv rfl rfl ?_
   try simp only [aS,hdd.2,hn1]
   refine h_ld rfl (RR.ldF0 hp0) rfl (by simp [strV8,Value.oneCell']) ?_
   try simp only [aS,hdd.2,hn1]
   refine h_pv rfl rfl ?_
   try simp only [aS,hdd.2,hn1]
   refine h_ite rfl (fun q17=>?_) (fun q17=>?_)
   ·skip
    try simp only [q9,q17,bne,bS,↓reduceIte] at hx
    refine h_pv rfl rfl ?_
    try simp only [aS,hdd.2,hn1]
    refine h_pv rfl rfl ?_
    try simp only [aS,hdd.2,hn1]
    refine h_ld rfl RR.ld0 rfl (hdV_one _ _) ?_
    try simp only [aS,hdd.2,hn1]
    refine h_pv rfl (sem_ia 0 hp0) ?_
    try simp only [aS,hdd.2,hn1]
    refine h_pv rfl rfl ?_
    try simp only [aS,hdd.2,hn1]
    refine h_ld rfl (RR.ldF1 hp0) rfl (by simp [strV8,Value.oneCell']) ?_
    try simp only [aS,hdd.2,hn1]
    refine kc (h:=w_level (by omega) ?_)
    try simp only [aS,hdd.2,hn1]
    refine h_pv rfl rfl ?_
    try simp only [aS,hdd.2,hn1]
    refine h_ite rfl (fun q26=>?_) (fun q26=>?_)
    ·skip
     try simp only [q9,q17,q26,bne,bS,↓reduceIte] at hx
     refine kc (h:=w_next fun h27 p27=>?_)
     try simp only [aS,hdd.2,hn1]
     refine h_new fun g28=>?_
     refine h_pv rfl rfl ?_
     try simp only [aS,hdd.2,hn1]
     try simp only [q9,q17,q26,bne,bS,↓reduceIte] at hx
     obtain ⟨⟨x30,s30⟩,e30,hx⟩:=Option.bind_eq_some_iff.1 hx
     simp only at hx
     refine kc (h:=w_bin (f:=k) (n:=n + 1) (by omega) (by omega) e30 ⟨by omega,by omega⟩ fun A30 c30 h30 p30=>?_)
     try simp only [aS,hdd.2,hn1]
     refine h_new fun g31=>?_
     refine h_both ?_ ?_
     ·unfold TBinary_34
      refine kc (h:=w_level (by omega) ?_)
      try simp only [aS,hdd.2,hn1]
      refine kb (h:=fun g33=>?_)
      try simp only [aS,hdd.2,hn1]
      try simp only [q9,q17,q26,bne,bS,↓reduceIte] at hx
      refine ka (h:=?_)
      show (ite ((0:Nat)=0) _ _:List Value→List D→RH→Prop) _ _ _
      rw [if_pos rfl]
      refine ⟨_,_,_,rfl,?_,p30,by omega,hx⟩
      first | rfl | (simp only [kidsD,Ex.kids,List.map,encEx_eq];done) | (simp only [kidsD,Ex.kids,List.map,encEx_eq];rfl)
     ·unfold TBinary_37
      refine kb (h:=fun g34=>?_)
      try simp only [aS,hdd.2,hn1]
      refine kc (h:=w_level (by omega) ?_)
      try simp only [aS,hdd.2,hn1]
      try simp only [q9,q17,q26,bne,bS,↓reduceIte] at hx
      refine ka (h:=?_)
      show (ite ((0:Nat)=0) _ _:List Value→List D→RH→Prop) _ _ _
      rw [if_pos rfl]
      refine ⟨_,_,_,rfl,?_,p30,by omega,hx⟩
      first | rfl | (simp only [kidsD,Ex.kids,List.map,encEx_eq];done) | (simp only [kidsD,Ex.kids,List.map,encEx_eq];rfl)
    ·skip
     try simp only [q9,q17,q26,bne,bS,↓reduceIte] at hx
     try simp only [q9,q17,q26,bne,bS,↓reduceIte] at hx
     obtain ⟨rfl,rfl⟩:=sP hx
     refine kr (h:=?_)
     refine hK _ _ _ ⟨⟨_,_,rfl⟩,?_,rfl⟩
     first | rfl | (simp only [kidsD,Ex.kids,List.map,encEx_eq];done) | (simp only [kidsD,Ex.kids,List.map,encEx_eq];rfl)
   ·skip
    try simp only [q9,q17,bne,bS,↓reduceIte] at hx
    try simp only [q9,q17,bne,bS,↓reduceIte] at hx
    obtain ⟨rfl,rfl⟩:=sP hx
    refine kr (h:=?_)
    refine hK _ _ _ ⟨⟨_,_,rfl⟩,?_,rfl⟩
    first | rfl | (simp only [kidsD,Ex.kids,List.map,encEx_eq];done) | (simp only [kidsD,Ex.kids,List.map,encEx_eq];rfl)
  ·skip
   try simp only [q9,bne,bS,↓reduceIte] at hx
   try simp only [q9,bne,bS,↓reduceIte] at hx
   obtain ⟨rfl,rfl⟩:=sP hx
   refine kr (h:=?_)
   refine hK _ _ _ ⟨⟨_,_,rfl⟩,?_,rfl⟩
   first | rfl | (simp only [kidsD,Ex.kids,List.map,encEx_eq];done) | (simp only [kidsD,Ex.kids,List.map,encEx_eq];rfl)
end Go.Proofs.YtdmacgoeikjdbaaGreatDoor
