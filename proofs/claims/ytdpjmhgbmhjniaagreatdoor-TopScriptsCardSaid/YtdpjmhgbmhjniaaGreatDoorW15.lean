/- Part W15. -/
import Derived.Test.YtdpjmhgbmhjniaaGreatDoorW14
open Go.Value renaming int→o
open Go.IntKind renaming i64→d
open List renaming eq_nil_of_length_eq_zero→j,length→r,replicate→D,length_append→N
open Nat renaming mul_le_mul_right→G,add_mul→J,mul_le_mul_left→M,le_trans→O,sub_mul→S,add_zero→U,le_refl→W
open Option renaming bind_some→R,some→s
open Array renaming getElem?_setIfInBounds→u,length_toList→y
open Go.Builtin renaming zeroCells→a,append_→A
open Go renaming Value→L
namespace Go.V
set_option linter.all false
section
variable {P:Program} {T:World} {K:L->Hp->Prop} {F:Env} {h:Hp} {ty:TypeId}
theorem H6(z:L)(k:Nat):(a #[z] k).toList=D k z:=by
 apply List.ext_getElem?;intro i;rw[List.getElem?_replicate];by_cases hi:i<k
 .rw[if_pos hi];simp[a,hi,Nat.mod_one]
 .rw[if_neg hi,List.getElem?_eq_none];rw[y,YL];simp;omega
theorem D0{sT xT E B n m k bytes:Nat}{v:L}{cs zs:List L}{cb:Array Bool}(Uh:Js P sT=s E)(KO:P.underlying xT=s (.int d))(hn:tn P E=s n)(hz:tz P E=s zs)(DP:(r zs)=n)(RC:n≠0)(WR:tb P E=s bytes)(Zy:Own B E n h v m cs)(hB:B<=h.size)(Xz:(a zs.toArray k).toList.all Yq=true)(YB:(m+k)*bytes<=140737488355328)(KP:1<=bytes)(H:∀v' h',Own B E n h' v' (m+k) (cs++(a zs.toArray k).toList)->Ue (ZJ v) h h'->K v' h'):Sa P T .append #[sT,xT] ty cb [v,o d (k:Nat)] K h:=by
 have uQ:k*bytes<=140737488355328:=O (G _ gX) YB;have Znr:k<=140737488355328:=O (by have:=M k KP;omega) uQ;have Um:(a zs.toArray k).toList.length=k*n:=by rw[y,YL];simp[DP]
 obtain⟨news,D1⟩:=ZD ((a zs.toArray k).toList);rw[<-D1]at Xz Um H;unfold Js at Uh;split at Uh
 .rename_i e' hu;simp only[Option.some.injEq]at Uh;subst Uh;show hw P (do pure (.value (<-A #[sT,xT] ty #[v,o d (k:Nat)]))) (XA P T K) h;rw[Ze];show hw P (A #[sT,xT] ty #[v,o d (k:Nat)]) K h;obtain⟨i0,VX⟩:∃i,P.info? e'=s i:=by
   unfold tn at hn
   cases hi:P.info? e' with
   | none=>rw[hi]at hn;cases hn
   | some i=>exact⟨i,rfl⟩
  have Rw:i0.bytes=bytes:=by unfold tb at WR;rw[VX]at WR;simpa using WR
  obtain⟨z0,GH,DQ⟩:∃z,i0.zero=s z/\z.cells.toList=zs:=by
   unfold tz at hz;rw[VX]at hz
   cases NV:i0.zero with
   | none=>rw[R,NV]at hz;cases hz
   | some z=>rw[R,NV]at hz;exact⟨z,rfl,by simpa using hz⟩
  have Zcm:z0.cells=zs.toArray:=by rw[<-DQ]
  have ic:∃base cap,v=.slice base m cap:=by
   rcases Zy with⟨⟨p,rfl⟩,rfl,_⟩|⟨b,cap,sp,_,rfl,_⟩
   .exact⟨_,_,rfl⟩
   .exact⟨_,_,rfl⟩
  obtain⟨base,cap,hv⟩:=ic;subst hv;have ay:∀{Q:L->Hp->Prop} (g:Hp),hw P (zeroValue e') Q g=Q z0 g:=fun {Q} g=>by
   unfold zeroValue;rw[Ze,Y2 VX];simp only[GH];rfl
  have oZ:IntKind.i64.wrap ((k:Nat):Int)=(k:Nat):=Tc d k (by show k<2 ^ 63;omega);have Sy:∀{Q:Int->Hp->Prop} (g:Hp),hw P (asInt (o d (k:Nat))) Q g=Q (k:Nat) g:=fun {Q} g=>by
   rfl
  have Zcn:¬((k:Nat):Int)<0:=gX;have h48:¬((k:Nat):Int)*(i0.bytes:Nat)>2 ^ 48:=by
   rw[Rw,<-Int.natCast_mul];have:k*bytes<=2 ^ 48:=gX;have h2:((k*bytes:Nat):Int)<=2 ^ 48:=by exact_mod_cast this
   omega
  simp only[A,List.getElem?_toArray,List.getElem?_cons_zero,List.getElem?_cons_succ,Ze,ZC,Zv hu,Zv KO,run_sizeOf hn,if_true,Sy,oZ,if_neg Zcn,Y2 VX,if_neg h48,Int.toNat_natCast,Bool.not_true,Bool.false_eq_true,if_false];have ph:∀{Q:Array L->Hp->Prop} (g:Hp),Q news.toArray g->hw P (if k*n=0 then pure #[] else do pure (a (<-zeroValue e').cells k)) Q g:=fun {Q} g q=>by
   by_cases h0:k*n=0
   .rw[if_pos h0];have:k=0:=by
     rcases Nat.mul_eq_zero.1 h0 with h|h
     .exact h
     .exact (RC h).elim
    subst this;have e:news=[]:=j (by rw[Um];omega);rw[e]at q;exact q
   .rw[if_neg h0,Ze,ay,Zcm];rw[D1,Array.toArray_toList]at q;exact q
  by_cases JL:m+k<=cap
  .rw[if_pos JL,Ze];refine ph _ ?_;by_cases Ys:news=[]
   .rw[Ys];rw[Ys]at Um H;have hK:K (.slice base (m+k) cap) h:=by
     refine H _ _ ?_ Ue.refl;rcases Zy with⟨⟨p,h1⟩,h2,h3⟩|⟨b,OI,Zx,OJ,h1,hb,hl,TM,As⟩
     .simp only[Value.slice.injEq]at h1;obtain⟨rfl,rfl,rfl⟩:=h1;have hk:k=0:=gX;subst hk;subst h3;exact .inl ⟨⟨_,rfl⟩,rfl,rfl⟩
     .simp only[Value.slice.injEq]at h1;obtain⟨rfl,_,rfl⟩:=h1;have az:k*n=0:=by simpa using Um.symm
      refine .inr ⟨b,cap,Zx,OJ,rfl,by simpa using hb,by rw[List.append_nil,hl,J,az];rfl,?_,JL⟩;rw[TM,S,S,J,az,U]
    cases base<;>exact hK
   rcases Zy with⟨⟨p,h1⟩,h2,h3⟩|⟨b,OI,Zx,OJ,h1,hb,hl,TM,As⟩
   .simp only[Value.slice.injEq]at h1;obtain⟨rfl,rfl,rfl⟩:=h1;have hk:k=0:=gX;subst hk;exact (Ys (j (by simpa using Um))).elim
   .simp only[Value.slice.injEq]at h1;obtain⟨rfl,_,rfl⟩:=h1;simp only[Ze,addr_add];have Wt:(r news)<=(r Zx):=by rw[Um,TM];exact G _ gX
    refine Yt (e:=e') (lo:=0) (hi:=0) rfl (W _) news 0 h (cs++Zx).toArray hb ?_ Xz ?_
    .simp;rw[<-hl];omega
    .simp only[ZC,Nat.zero_add,U];refine H _ _ (.inr ⟨b,cap,Zx.drop (r news),OJ,rfl,?_,?_,?_,JL⟩) ⟨Dq,fun b' Jc hx=>?_⟩
     .rw[u,if_pos rfl,if_pos (Za hb)];rw[<-hl,UK,Qe _ _ Wt,List.append_assoc]
     .rw[N,hl,Um,J]
     .rw[List.length_drop,TM,Um,<-S];congr 1;omega
     .rw[u,if_neg];intro e;subst e;have wG:cap≠0:=by
       intro h0;subst h0;have:k=0:=gX;subst this;exact Ys (j (by simpa using Um))
      exact hx (by simp[ZJ,wG])
  .rw[if_neg JL];have QQ:¬Builtin.nextslicecap (m+k) cap*i0.bytes>2 ^ 48:=by
    rw[Rw];have:=Us (m+k) cap bytes gX YB;omega
   have FU:¬i0.bytes=0:=by rw[Rw];omega
   have fg:m+k<=140737488355328:=O (by have:=M (m+k) KP;omega) YB;have Eb:¬((m+k:Nat):Int)>IntKind.i64.max:=by
    have:IntKind.i64.max=9223372036854775807:=rfl;rw[this];omega
   simp only[Ze,Y2 VX,Eb,false_and,if_false,if_neg QQ];intro t;obtain⟨c,hc⟩:=ZD (Question.cut (Question.appendCap (m+k) cap e') t);have iO:m+k<=c:=by rw[hc];simp only[Question.cut];omega
   rw[<-hc];have Sy:∀{Q:Unit->Hp->Prop} (b:Nat) (g:Hp),Q () g->hw P (askRoom b) Q g:=fun {Q} b g q=>by
    unfold askRoom;split<;>exact q
   refine Sy _ _ (Yi Zy.sl (ph _ ?_));rw[ay];have iP:z0.cells.size=n:=by rw[<-DP,<-DQ];simp
   refine H (.slice (s ⟨h.size,0,none⟩) (m+k) c) _ (.inr ⟨h.size,c,(a z0.cells (c-(m+k))).toList,hB,rfl,?_,?_,?_,iO⟩) (Ue.push _)
   .rw[Array.getElem?_push_size];simp
   .have Jm:(r cs)=m*n:=by obtain⟨_,_,_,hl,_⟩:=Zy.sl;exact hl
    rw[N,Jm,Um,J]
   .rw[y,YL,iP]
 .cases Uh
theorem K0{sT xT E B k:Nat}{v:L}{l:List Nat}{cb:Array Bool}(Uh:Js P sT=s E)(KO:P.underlying xT=s (.int d))(hn:tn P E=s 1)(hz:tz P E=s [o .u8 0])(WR:tb P E=s 1)(Zy:Yd B E h v l)(hB:B<=h.size)(YB:(r l)+k<=140737488355328)(H:∀v' h',Yd B E h' v' (l++D k 0)->Zf B h h'->Ue (ZJ v) h h'->K v' h'):Sa P T .append #[sT,xT] ty cb [v,o d (k:Nat)] K h:=by
 have e:(a [Value.int .u8 0].toArray k).toList=(D k 0).map bv:=by
  rw[H6,List.map_replicate];rfl
 refine D0 Uh KO hn hz rfl MZ WR Zy.Zy hB (by rw[e];exact Vz _) gX (W _) ?_;intro v' h' ho hb;rw[e,<-List.map_append]at ho;refine H v' h' ⟨by simpa using ho,fun x hx=>?_⟩ (hb.Yb hB Zy.Zy.ZQ) hb;rcases List.mem_append.1 hx with hx|hx
 .exact Zy.byte x hx
 .rw[List.eq_of_mem_replicate hx];omega
end
end Go.V
