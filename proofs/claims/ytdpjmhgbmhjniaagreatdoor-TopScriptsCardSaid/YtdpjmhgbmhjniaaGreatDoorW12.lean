/- Part W12. -/
import Derived.Test.YtdpjmhgbmhjniaaGreatDoorW11
open Go.Value renaming slice→u
open List renaming length→d,eq_nil_of_length_eq_zero→o,length_append→G
open Nat renaming add_mul→D,sub_mul→L,le_refl→M,add_zero→N
open Option renaming bind_some→J,some→j
open Array renaming getElem?_setIfInBounds→r
open Go.Builtin renaming append_→A
open Go renaming Value→y
namespace Go.V
set_option linter.all false
section
variable {P:Program} {T:World} {K:y->Hp->Prop} {F:Env} {h:Hp} {ty:TypeId}
theorem MU{sT xT E E' B n m k bytes:Nat}{v s:y}{cs news zs:List y}{cb:Array Bool}(Uh:Js P sT=j E)(KO:P.underlying xT=j (.slice E'))(hn:tn P E=j n)(hz:tz P E=j zs)(DP:(d zs)=n)(WR:tb P E=j bytes)(Zy:Own B E n h v m cs)(hB:B<=h.size)(src:Sl n h s k news)(Xz:news.all Yq=true)(YB:(m+k)*bytes<=140737488355328)(KP:1<=bytes)(H:∀v' h',Own B E n h' v' (m+k) (cs++news)->Ue (ZJ v) h h'->(∀b,ZJ v'=j b->ZJ v=j b\/h.size<=b)->K v' h'):Sa P T .append #[sT,xT] ty cb [v,s] K h:=by
 unfold Js at Uh;split at Uh
 .rename_i e' hu;simp only[Option.some.injEq]at Uh;subst Uh;show hw P (do pure (.value (<-A #[sT,xT] ty #[v,s]))) (XA P T K) h;rw[Ze];show hw P (A #[sT,xT] ty #[v,s]) K h;obtain⟨i0,VX⟩:∃i,P.info? e'=j i:=by
   unfold tn at hn
   cases hi:P.info? e' with
   | none=>rw[hi]at hn;cases hn
   | some i=>exact⟨i,rfl⟩
  have Rw:i0.bytes=bytes:=by unfold tb at WR;rw[VX]at WR;simpa using WR
  obtain⟨z0,GH,DQ⟩:∃z,i0.zero=j z/\z.cells.toList=zs:=by
   unfold tz at hz;rw[VX]at hz
   cases NV:i0.zero with
   | none=>rw[J,NV]at hz;cases hz
   | some z=>rw[J,NV]at hz;exact⟨z,rfl,by simpa using hz⟩
  have ic:∃base cap,v=u base m cap:=by
   rcases Zy with⟨⟨p,rfl⟩,rfl,_⟩|⟨b,cap,sp,_,rfl,_⟩
   .exact⟨_,_,rfl⟩
   .exact⟨_,_,rfl⟩
  obtain⟨base,cap,hv⟩:=ic;subst hv;have ay:∀{Q:y->Hp->Prop} (g:Hp),hw P (zeroValue e') Q g=Q z0 g:=fun {Q} g=>by
   unfold zeroValue;rw[Ze,Y2 VX];simp only[GH];rfl
  simp only[A,List.getElem?_toArray,List.getElem?_cons_zero,List.getElem?_cons_succ,Ze,ZC,Zv hu,Zv KO,run_sizeOf hn,Bool.false_eq_true,if_false,src.lenOf,Bool.not_false,if_true];by_cases JL:m+k<=cap
  .rw[if_pos JL,Ze];refine Yi src ?_;have Um:(d news)=k*n:=by obtain⟨_,_,_,hl,_⟩:=src;exact hl
   by_cases Ys:news=[]
   .subst Ys;have OH:hw P (match base with|some a=>(do storeCells (a.add (m*n)) [];pure (Value.slice base (m+k) cap))|none=>pure (Value.slice base (m+k) cap)) K h=K (u base (m+k) cap) h:=by
     cases base<;>rfl
    have hK:K (u base (m+k) cap) h:=by
     refine H _ _ ?_ Ue.refl (fun b hb=>.inl (by
      cases base with
      | none=>simp[ZJ]at hb
      | some a=>simpa [ZJ] using hb))
     rcases Zy with⟨⟨p,h1⟩,h2,h3⟩|⟨b,OI,Zx,OJ,h1,hb,hl,TM,As⟩
     .simp only[Value.slice.injEq]at h1;obtain⟨rfl,rfl,rfl⟩:=h1;have hk:k=0:=gX;subst hk;subst h3;exact .inl ⟨⟨_,rfl⟩,rfl,rfl⟩
     .simp only[Value.slice.injEq]at h1;obtain⟨rfl,_,rfl⟩:=h1;have az:k*n=0:=by simpa using Um.symm
      refine .inr ⟨b,cap,Zx,OJ,rfl,by simpa using hb,by rw[List.append_nil,hl,D,az];rfl,?_,JL⟩;rw[TM,L,L,D,az,N]
    cases base<;>exact hK
   rcases Zy with⟨⟨p,h1⟩,h2,h3⟩|⟨b,OI,Zx,OJ,h1,hb,hl,TM,As⟩
   .simp only[Value.slice.injEq]at h1;obtain⟨rfl,rfl,rfl⟩:=h1;have hk:k=0:=gX;subst hk;exact (Ys (o (by simpa using Um))).elim
   .simp only[Value.slice.injEq]at h1;obtain⟨rfl,_,rfl⟩:=h1;simp only[Ze,addr_add];have Wt:(d news)<=(d Zx):=by rw[Um,TM];exact Nat.mul_le_mul_right _ gX
    refine Yt (e:=e') (lo:=0) (hi:=0) rfl (M _) news 0 h (cs++Zx).toArray hb ?_ Xz ?_
    .simp;rw[<-hl];omega
    .simp only[ZC,Nat.zero_add,N];refine H _ _ (.inr ⟨b,cap,Zx.drop (d news),OJ,rfl,?_,?_,?_,JL⟩) ⟨Dq,fun b' Jc hx=>?_⟩ (fun b' Jc=>.inl (by simpa [ZJ] using Jc))
     .rw[r,if_pos rfl,if_pos (Za hb)];rw[<-hl,UK,Qe _ _ Wt,List.append_assoc]
     .rw[G,hl,Um,D]
     .rw[List.length_drop,TM,Um,<-L];congr 1;omega
     .rw[r,if_neg];intro e;subst e;have wG:cap≠0:=by
       intro h0;subst h0;have:k=0:=gX;subst this;exact Ys (o (by simpa using Um))
      exact hx (by simp[ZJ,wG])
  .rw[if_neg JL];have QQ:¬Builtin.nextslicecap (m+k) cap*i0.bytes>2 ^ 48:=by
    rw[Rw];have:=Us (m+k) cap bytes gX YB;omega
   have FU:¬i0.bytes=0:=by rw[Rw];omega
   simp only[Ze,Y2 VX,FU,or_false,and_false,if_false,if_neg QQ];intro t;obtain⟨c,hc⟩:=ZD (Question.cut (Question.appendCap (m+k) cap e') t);have iO:m+k<=c:=by rw[hc];simp only[Question.cut];omega
   rw[<-hc];have Sy:∀{Q:Unit->Hp->Prop} (b:Nat) (g:Hp),Q () g->hw P (askRoom b) Q g:=fun {Q} b g q=>by
    unfold askRoom;split<;>exact q
   refine Sy _ _ (Yi Zy.sl (Yi src ?_));rw[ay];have iP:z0.cells.size=n:=by rw[<-DP,<-DQ];simp
   refine H (u (j ⟨h.size,0,none⟩) (m+k) c) _ (.inr ⟨h.size,c,(Builtin.zeroCells z0.cells (c-(m+k))).toList,hB,rfl,?_,?_,?_,iO⟩) (Ue.push _) (fun b' Jc=>.inr (by simp only[ZJ]at Jc;split at Jc;cases Jc;rw[<-Option.some.inj Jc];exact M _))
   .rw[Array.getElem?_push_size];simp
   .have Um:(d news)=k*n:=by obtain⟨_,_,_,hl,_⟩:=src;exact hl
    have Jm:(d cs)=m*n:=by obtain⟨_,_,_,hl,_⟩:=Zy.sl;exact hl
    rw[G,Jm,Um,D]
   .rw[Array.length_toList,YL,iP]
 .cases Uh
theorem JJ{sT xT E E' B:Nat}{v s:y}{l k:List Nat}{z:y}{cb:Array Bool}(Uh:Js P sT=j E)(KO:P.underlying xT=j (.slice E'))(hn:tn P E=j 1)(hz:tz P E=j [z])(WR:tb P E=j 1)(Zy:Yd B E h v l)(hB:B<=h.size)(src:Bs h s k)(YB:(d l)+(d k)<=140737488355328)(H:∀v' h',Yd B E h' v' (l++k)->Zf B h h'->Ue (ZJ v) h h'->(∀b,ZJ v'=j b->ZJ v=j b\/h.size<=b)->K v' h'):Sa P T .append #[sT,xT] ty cb [v,s] K h:=by
 refine MU Uh KO hn hz rfl WR Zy.Zy hB src.sl (Vz k) gX (M _) ?_;intro v' h' ho hb H5;refine H v' h' ⟨by simpa using ho,fun x hx=>?_⟩ (hb.Yb hB Zy.Zy.ZQ) hb H5;rcases List.mem_append.1 hx with hx|hx
 .exact Zy.byte x hx
 .exact src.byte x hx
theorem Own.lt{B:Nat}{E:TypeId}{n:Nat}{h:Hp}{v:y}{m:Nat}{cs:List y}(s:Own B E n h v m cs):∀b,ZJ v=j b->b<h.size:=by
 intro b hb;rcases s with⟨⟨p,rfl⟩,_,_⟩|⟨b',cap,Zx,_,rfl,hx,_⟩
 .cases p<;>simp[ZJ]at hb
 .simp only[ZJ]at hb;split at hb
  .cases hb
  .rw[<-Option.some.inj hb];exact Za hx
theorem Yd.SA{B:Nat}{E:TypeId}{h h':Hp}{v:y}{l:List Nat}(s:Yd B E h v l){x:Option Nat}(a:Ue x h h')(hx:∀b,ZJ v=j b->x≠j b):Yd B E h' v l:=⟨s.Zy.SA a hx,s.byte⟩
end
end Go.V
