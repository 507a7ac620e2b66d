/- Part W15. -/
import Derived.Test.YtkhkmpfenaipaaaGreatDoorW14
open Go.Value renaming int→o
open Go.IntKind renaming i64→d
open List renaming toArray→j,length→s,eq_nil_of_length_eq_zero→w,replicate→D
open Nat renaming mul_le_mul_right→G,mul_le_mul_left→L,le_trans→N,sub_mul→O,le_refl→R
open Option renaming some→y
open Array renaming length_toList→M
open Go.Builtin renaming zeroCells→a,append_→A
open Go renaming Value→J
namespace Go.V
set_option linter.all false
section
variable {P:Program} {T:World} {K:J->Hp->Prop} {F:Env} {h:Hp} {ty:TypeId}
theorem CG(z:J)(k:Nat):(a #[z] k).toList=D k z:=by
 apply List.ext_getElem?;intro i;rw[List.getElem?_replicate];by_cases hi:i<k
 .rw[if_pos hi];simp[a,hi,Nat.mod_one]
 grind [XW]
theorem fg{U S E B n m k bytes:Nat}{v:J}{cs zs:List J}{cb:Array Bool}(x:Un P U=y E)(an:P.underlying S=y (.int d))(hn:tn P E=y n)(hz:tz P E=y zs)(kZ:(s zs)=n)(jX:n≠0)(Mg:tb P E=y bytes)(Zn:QU B E n h v m cs)(hB:B<=h.size)(JD:(a (j zs) k).toList.all YV=true)(Xq:(m+k)*bytes<=140737488355328)(Ck:1<=bytes)(H:∀v' h',QU B E n h' v' (m+k) (cs++(a (j zs) k).toList)->SK (Yq v) h h'->K v' h'):OV P T .append #[U,S] ty cb [v,o d (k:Nat)] K h:=by
 have Y:k*bytes<=140737488355328:=N (G _ uh) Xq;have a6:k<=140737488355328:=N (by have:=L k Ck;omega) Y;have dj:(a (j zs) k).toList.length=k*n:=by rw[M,XW];simp[kZ]
 let⟨news,fh⟩:=ZO ((a (j zs) k).toList);rw[<-fh]at JD dj H;unfold Un at x;split at x
 .rename_i r hu;simp only[Option.some.injEq]at x;subst x;show hw P (do pure (.value (<-A #[U,S] ty #[v,o d (k:Nat)]))) (JX P T K) h;rw[Zk];show hw P (A #[U,S] ty #[v,o d (k:Nat)]) K h;obtain⟨l,C⟩:∃i,P.info? r=y i:=by
   unfold tn at hn
   cases hi:P.info? r with
   | none=>grind
   | some i=>grind
  have HJ:l.bytes=bytes:=by unfold tb at Mg;rw[C]at Mg;simpa using Mg
  obtain⟨I,Bt,lj⟩:∃z,l.zero=y z/\z.cells.toList=zs:=by
   unfold tz at hz;rw[C]at hz
   cases a5:l.zero with
   | none=>grind
   | some z=>grind
  have a2:I.cells=(j zs):=by rw[<-lj]
  have W:∃base cap,v=.slice base m cap:=by
   rcases Zn with⟨⟨p,rfl⟩,rfl,_⟩|⟨b,cap,sp,_,rfl,_⟩
   .grind
   .grind
  let⟨base,cap,hv⟩:=W;subst hv;have uX:∀{Q:J->Hp->Prop} (g:Hp),hw P (zeroValue r) Q g=Q I g:=fun {Q} g=>by
   unfold zeroValue;rw[Zk,Jp C];simp only[Bt];rfl
  have a4:IntKind.i64.wrap ((k:Nat):Int)=(k:Nat):=RX d k (by show k<2 ^ 63;omega);have Li:∀{Q:Int->Hp->Prop} (g:Hp),hw P (asInt (o d (k:Nat))) Q g=Q (k:Nat) g:=fun {Q} g=>by
   rfl
  have a1:¬((k:Nat):Int)<0:=uh;have a0:¬((k:Nat):Int)*(l.bytes:Nat)>2 ^ 48:=by
   rw[HJ,<-Int.natCast_mul];have:k*bytes<=2 ^ 48:=uh;have h2:((k*bytes:Nat):Int)<=2 ^ 48:=by exact_mod_cast this
   omega
  simp only[A,List.getElem?_toArray,List.getElem?_cons_zero,List.getElem?_cons_succ,Zk,ZS,ZL hu,ZL an,run_sizeOf hn,if_true,Li,a4,if_neg a1,Jp C,if_neg a0,Int.toNat_natCast,Bool.not_true,Bool.false_eq_true,if_false];have u:∀{Q:Array J->Hp->Prop} (g:Hp),Q (j news) g->hw P (if k*n=0 then pure #[] else do pure (a (<-zeroValue r).cells k)) Q g:=fun {Q} g q=>by
   by_cases h0:k*n=0
   .rw[if_pos h0];have:k=0:=by
     rcases Nat.mul_eq_zero.1 h0 with h|h
     .exact h
     .grind
    subst this;have e:news=[]:=w zK;rw[e]at q;exact q
   .rw[if_neg h0,Zk,uX,a2];rw[fh,Array.toArray_toList]at q;exact q
  by_cases WE:m+k<=cap
  .rw[if_pos WE,Zk];refine u _ ?_;by_cases XU:news=[]
   .rw[XU];rw[XU]at dj H;have hK:K (.slice base (m+k) cap) h:=by
     refine H _ _ ?_ SK.refl;rcases Zn with⟨⟨p,f⟩,h2,h3⟩|⟨b,Ef,ZT,ao,f,hb,X,Bu,zE⟩
     .grind [QU]
     .grind [QU,O]
    cases base<;>exact hK
   rcases Zn with⟨⟨p,f⟩,h2,h3⟩|⟨b,Ef,ZT,ao,f,hb,X,Bu,zE⟩
   .simp only[Value.slice.injEq]at f;obtain⟨rfl,rfl,rfl⟩:=f;have hk:k=0:=uh;subst hk;exact (XU (w zK)).elim
   .simp only[Value.slice.injEq]at f;obtain⟨rfl,_,rfl⟩:=f;simp only[Zk,X9];have aq:(s news)<=(s ZT):=by rw[dj,Bu];exact G _ uh
    refine Xf (e:=r) (lo:=0) (hi:=0) rfl (R _) news 0 h (cs++ZT).toArray hb ?_ JD ?_
    .grind
    .simp only[ZS,Nat.zero_add,Nat.add_zero];refine H _ _ (.inr ⟨b,cap,ZT.drop (s news),ao,rfl,?_,?_,?_,WE⟩) ⟨zX,fun b' QW hx=>?_⟩
     .grind [TV,Wn]
     .grind
     .grind [O]
     grind [Yq]
  .rw[if_neg WE];have WF:¬Builtin.nextslicecap (m+k) cap*l.bytes>2 ^ 48:=by
    rw[HJ];have:=TW (m+k) cap bytes uh Xq;omega
   have lq:¬l.bytes=0:=by rw[HJ];omega
   have lL:m+k<=140737488355328:=N (by have:=L (m+k) Ck;omega) Xq;have a3:¬((m+k:Nat):Int)>IntKind.i64.max:=by
    have:IntKind.i64.max=9223372036854775807:=rfl;rw[this];omega
   simp only[Zk,Jp C,a3,false_and,if_false,if_neg WF];intro t;let⟨c,hc⟩:=ZO (Question.cut (Question.appendCap (m+k) cap r) t);have Z:m+k<=c:=by rw[hc];simp only[Question.cut];omega
   rw[<-hc];have Li:∀{Q:Unit->Hp->Prop} (b:Nat) (g:Hp),Q () g->hw P (askRoom b) Q g:=fun {Q} b g q=>by
    unfold askRoom;split<;>exact q
   refine Li _ _ (YW Zn.sl (u _ ?_));rw[uX];have V:I.cells.size=n:=by rw[<-kZ,<-lj];simp
   refine H (.slice (y ⟨h.size,0,none⟩) (m+k) c) _ (.inr ⟨h.size,c,(a I.cells (c-(m+k))).toList,hB,rfl,?_,?_,?_,Z⟩) (SK.push _)
   .rw[Array.getElem?_push_size];simp
   .have Ri:(s cs)=m*n:=by let⟨_,_,_,X,_⟩:=Zn.sl;exact X
    grind
   .rw[M,XW,V]
 .cases x
theorem El{g f E B k:Nat}{v:J}{l:List Nat}{cb:Array Bool}(q:Un P g=y E)(an:P.underlying f=y (.int d))(p:tn P E=y 1)(m:tz P E=y [o .u8 0])(r:tb P E=y 1)(Zn:YL B E h v l)(i:B<=h.size)(t:(s l)+k<=140737488355328)(H:∀b h',YL B E h' b (l++D k 0)->Zm B h h'->SK (Yq v) h h'->K b h'):OV P T .append #[g,f] ty cb [v,o d (k:Nat)] K h:=by
 have e:(a [Value.int .u8 0].toArray k).toList=(D k 0).map bv:=by
  rw[CG,List.map_replicate];rfl
 refine fg q an p m rfl HE r Zn.Zn i (by rw[e];exact Oe _) uh (R _) ?_;intro b h' n hb;rw[e,<-List.map_append]at n;refine H b h' ⟨zK,fun x c=>?_⟩ (hb.YQ i Zn.Zn.Yb) hb;rcases List.mem_append.1 c with c|c
 .exact Zn.byte x c
 grind
end
end Go.V
