/- Keys that are drawn: what the program and the document compute; no condition but those in the statements. -/
import Derived.Test.YtnhbpmoeaodmnaaGreatDoorChw
import Derived.Test.YtnhbpmoeaodmnaaGreatDoorW19
namespace Go.Proofs.YtnhbpmoeaodmnaaGreatDoor
open Go Go.V
set_option linter.unusedSimpArgs false
set_option linter.unusedVariables false
set_option maxRecDepth 100000
def cliB:List Nat:=[99,108,105,101,110,116]
def issB:List Nat:=[105,115,115,117,101,114]
def cliS (c:Nat):List Nat:=drawS [c] cliB [] 32
def issS:List Nat:=drawS [255] issB [] 32
theorem cliS_length (c:Nat):(cliS c).length=32:=drawS_length _ _ _ (by decide)
def keyErr (c:Int):Int:=if c<0∨7<c then 2 else 0
def KeyRes (B:Nat) (h':Hp) (v':Value) (c:Int):Prop:=∃ w,v'=.tuple [w,.int .i64 (keyErr c)].toArray∧Cap w∧Bs h' w (if keyErr c=0 then cliS c.toNat else [])∧∀ b,blkOf w=some b→B≤b
theorem row_bs {h:Hp} {b:Nat} {l:List Nat} {E:TypeId} {fr:Nat × Nat} (hx:h[b]? = some (.cells (l.map bv).toArray E fr)) (hl:∀ x∈l,x<256) (c:Nat):Bs h (.slice (some ⟨b,0,none⟩) l.length c) l:=by
 refine ⟨⟨_,c,rfl,by simp,fun _=>⟨b,0,rfl,fun i hi=>?_⟩⟩,hl⟩
 rw [hc_of_get hx,Nat.zero_add]
 simp
 exact ⟨_,List.getElem?_eq_getElem (by simpa using hi),rfl⟩
theorem mootKey_ok (T:World) (h:Hp) (c:Int) (tk:Tk h) :
  CallsH Tryz.prog T 52 #[.int .i64 c] h fun v' h'=>KeyRes h.size h' v' c∧Bel h.size h h':=by
 refine CallsH.of_code' (args:=[_]) Tryz.func52 rfl rfl rfl rfl ?_
 unfold KeyRes
 by_cases e1:c<0
 ·have ee:keyErr c=2:=by unfold keyErr; rw [if_pos (.inl e1)]
  rw [ee]
  simp -implicitDefEqProofs (maxSteps:=2000000) only [go_sem,↓reduceIte,e1]
  exact ⟨_,rfl,Nat.le_refl _,(OBs.nil 0 5 _).bs,fun b hb=>by simp [blkOf] at hb⟩
 by_cases e2:7<c
 ·have ee:keyErr c=2:=by unfold keyErr; rw [if_pos (.inr e2)]
  rw [ee]
  simp -implicitDefEqProofs (maxSteps:=2000000) only [go_sem,↓reduceIte,e1,e2]
  exact ⟨_,rfl,Nat.le_refl _,(OBs.nil 0 5 _).bs,fun b hb=>by simp [blkOf] at hb⟩
 have ee:keyErr c=0:=by unfold keyErr; rw [if_neg (by omega)]
 rw [ee]
 obtain ⟨n,rfl⟩:∃ n:Nat,c=n:=⟨c.toNat,by omega⟩
 have ec:(n:Int) % 256=(n:Int):=by omega
 rw [Int.toNat_natCast]
 simp -implicitDefEqProofs (maxSteps:=2000000) only [go_sem,↓reduceIte,e1,e2,ec]
 have hb1:∀ x∈[n],x<256:=by intro x hx; rw [List.mem_singleton.1 hx]; omega
 have hb2:∀ x∈cliB,x<256:=by decide
 obtain ⟨h1,hh1⟩:∃ h1:Hp,h1=h.push (.cells (([n]:List Nat).map bv).toArray 5):=⟨_,rfl⟩
 have b1:Bel h.size h h1:=by rw [hh1]; exact Bel.push (Nat.le_refl _) _
 have s1:h1.size=h.size+1:=by rw [hh1]; simp
 have x1:h1[h.size]? = some (.cells (([n]:List Nat).map bv).toArray 5):=by rw [hh1]; exact get_push_last
 change vConv _ _ _ _ _ ((h.push (.cells (([n]:List Nat).map bv).toArray 5)).push (.cells (cliB.map bv).toArray 5))
 rw [← hh1]
 have x2:(h1.push (.cells (cliB.map bv).toArray 5))[h.size+1]? = some (.cells (cliB.map bv).toArray 5):=by rw [← s1]; exact get_push_last
 refine conv_mark Tryz.underlying44 Tryz.underlying5 x2 ?_
 intro h3 fr' x3 hbut
 have B3:Bel (h.size+1) h1 h3:=(Bel.push (by omega) _).trans (hbut.bel (by simp; omega) (fun b e=>by have:=Option.some.inj e; omega))
 have x13:h3[h.size]? = some (.cells (([n]:List Nat).map bv).toArray 5):=B3.get (by omega) x1
 have Bh:Bel h.size h h3:=b1.trans (B3.mono (by omega))
 simp -implicitDefEqProofs (maxSteps:=2000000) only [go_sem,↓reduceIte]
 refine (shaDraw_ok T h3 _ _ _ [n] cliB [] 32 (row_bs x13 hb1 1) (row_bs x3 hb2 6) (OBs.nil 0 5 _).bs (tk.bels Bh)).use ?_
 rintro _ h4 ⟨⟨w4,rfl,hc4,o4,k4⟩,b4⟩
 have B4:=Bh.trans (b4.mono Bh.size)
 have e0:drawErr ([n]:List Nat).length cliB.length ([]:List Nat).length 32=0:=rfl
 rw [e0,if_pos rfl,show (32:Int).toNat=32 from rfl] at o4
 rw [e0]
 have o5:Bs h4 w4 (cliS n):=by unfold cliS; exact o4
 clear o4
 generalize cliS n=KS at *
 simp -implicitDefEqProofs (maxSteps:=2000000) only [go_sem,↓reduceIte,B4]
 exact ⟨_,rfl,hc4,o5,fun b hb=>Nat.le_trans Bh.size (k4 b hb)⟩
theorem issuer_ok (T:World) (h:Hp) (tk:Tk h) :
  CallsH Tryz.prog T 55 #[] h fun v' h'=>(Cap v'∧Bs h' v' issS)∧Bel h.size h h':=by
 refine CallsH.of_code' (args:=[]) Tryz.func55 rfl rfl rfl rfl ?_
 simp -implicitDefEqProofs (maxSteps:=2000000) only [go_sem,↓reduceIte]
 have hb1:∀ x∈[255],x<256:=by decide
 have hb2:∀ x∈issB,x<256:=by decide
 obtain ⟨h1,hh1⟩:∃ h1:Hp,h1=h.push (.cells (([255]:List Nat).map bv).toArray 5):=⟨_,rfl⟩
 have b1:Bel h.size h h1:=by rw [hh1]; exact Bel.push (Nat.le_refl _) _
 have s1:h1.size=h.size+1:=by rw [hh1]; simp
 have x1:h1[h.size]? = some (.cells (([255]:List Nat).map bv).toArray 5):=by rw [hh1]; exact get_push_last
 have x2:(h1.push (.cells (issB.map bv).toArray 5))[h.size+1]? = some (.cells (issB.map bv).toArray 5):=by rw [← s1]; exact get_push_last
 change vConv _ _ _ _ _ ((h.push (.cells (([255]:List Nat).map bv).toArray 5)).push (.cells (issB.map bv).toArray 5))
 rw [← hh1]
 refine conv_mark Tryz.underlying44 Tryz.underlying5 x2 ?_
 intro h3 fr' x3 hbut
 have B3:Bel (h.size+1) h1 h3:=(Bel.push (by omega) _).trans (hbut.bel (by simp; omega) (fun b e=>by have:=Option.some.inj e; omega))
 have x13:h3[h.size]? = some (.cells (([255]:List Nat).map bv).toArray 5):=B3.get (by omega) x1
 have Bh:Bel h.size h h3:=b1.trans (B3.mono (by omega))
 simp -implicitDefEqProofs (maxSteps:=2000000) only [go_sem,↓reduceIte]
 refine (shaDraw_ok T h3 _ _ _ [255] issB [] 32 (row_bs x13 hb1 1) (row_bs x3 hb2 6) (OBs.nil 0 5 _).bs (tk.bels Bh)).use ?_
 rintro _ h4 ⟨⟨w4,rfl,hc4,o4,k4⟩,b4⟩
 have B4:=Bh.trans (b4.mono Bh.size)
 have e0:drawErr ([255]:List Nat).length issB.length ([]:List Nat).length 32=0:=rfl
 rw [e0,if_pos rfl,show (32:Int).toNat=32 from rfl] at o4
 rw [e0]
 have o5:Bs h4 w4 issS:=by unfold issS; exact o4
 clear o4
 generalize issS=KS at *
 simp -implicitDefEqProofs (maxSteps:=2000000) only [go_sem,↓reduceIte,B4]
 exact ⟨hc4,o5⟩
end Go.Proofs.YtnhbpmoeaodmnaaGreatDoor
