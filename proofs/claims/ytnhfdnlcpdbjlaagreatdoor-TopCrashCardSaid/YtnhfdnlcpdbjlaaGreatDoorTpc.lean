/- Part Tpc. -/
import Derived.Test.YtnhfdnlcpdbjlaaGreatDoorMdh
import Derived.Test.YtnhfdnlcpdbjlaaGreatDoorLchks
import Derived.Test.YtnhfdnlcpdbjlaaGreatDoorPak
open Go.Value renaming int→M,slice→O,bool→aa,agg→am,pointer→au
open Go.IntKind renaming i64→H
open Go.Obj renaming cells→U
open Go.Proofs.Tryz renaming prog→a0
open List renaming length→Q,length_append→al,take_of_length_le→aF,mem_append→aI,length_cons→aX,length_take→a1,mem_filter→a2,length_singleton→a5,getElem?_eq_getElem→a8,foldl_cons→a9,getElem_mem→bc,length_map→bg,filter_sublist→bh,mem_range→bj,foldl_append→bp,mem_cons→br,length_erase_of_mem→bw,mem_of_mem_eraseIdx→bx,mem_flatMap→bz,length_pos_of_mem→bA,map_append→bG,mem_of_mem_take→bR,pairwise_cons→b6,mem_singleton→b8,mem_map→cg,range_succ→cx,map_take→cz
open Nat renaming le_refl→aw,le_trans→a6,lt_of_lt_of_le→ba,mul_le_mul_right→bd,le_succ→bl,zero_le→bo,zero_add→co
open Int renaming tmod_eq_emod_of_nonneg→bk
open Option renaming map_eq_some_iff→bD,none→W,some→Y
open Array renaming getElem?_setIfInBounds→bf,getElem?_push→bS,size_push→cu
open Classical renaming byContradiction→an
open Go renaming Value→ak
namespace Go.Proofs.YtnhfdnlcpdbjlaaGreatDoor
open Go Go.V
set_option linter.all false
variable(T:World){i:Nat}{n:Nd}
def Tf(l:List Vt):Prop:=(∀x∈l,Yu x)/\l.Pairwise (fun a b=>a.Zs<b.Zs)
structure Ex(a:Qo):Prop where
 bal:ZC a.p\/(a.p.r=0/\a.p.n=0)
 YY:Tf a.l
def Lw(b:Yg):Prop:=0<=b.r/\b.r<=65536
def jo:∀(l:List Vt) (a:Int),l.Pairwise (fun a b=>a.Zs<b.Zs)->(∀x∈l,a<=x.Zs/\x.Zs<=39)->a<=40->((Q l):Int)<=40-a:=by
 intro l
 induction l with
 | nil=>intro a _ _ h;simp;omega
 | cons x l ih=>
  intro a hp hx ha;rw[b6]at hp;have h1:=hx x sW;have:=ih (x.Zs+1) hp.2 (fun y hy=>⟨by have:=hp.1 y hy;omega,(hx y (by simp[hy])).2⟩) mD;simp only[aX];omega
def Tf.len{l:List Vt}(h:Tf l):(Q l)<=40:=by
 have:=jo l 0 h.2 (fun x hx=>⟨(h.1 x hx).1.1,(h.1 x hx).1.2⟩) mD;omega
def Tf.nil:Tf []:=⟨fun x hx=>by (cases hx),.nil⟩
def Tf.ins{l:List Vt}(h:Tf l){v:Vt}(hv:Yu v):Tf (Jh l v):=by
 unfold Jh;refine⟨fun x hx=>?_,?_⟩
 .rcases aI.1 hx with hx|hx
  .exact h.1 x (a2.1 hx).1
  .rcases br.1 hx with rfl|hx
   .exact hv
   .exact h.1 x (a2.1 hx).1
 .rw[List.pairwise_append,b6];refine⟨h.2.sublist bh,⟨fun y hy=>by simpa using (a2.1 hy).2,h.2.sublist bh⟩,fun x hx y hy=>?_⟩;have h1:x.Zs<v.Zs:=by simpa using (a2.1 hx).2
  rcases br.1 hy with rfl|hy
  .exact h1
  .have h2:v.Zs<y.Zs:=by simpa using (a2.1 hy).2
   omega
def Ex.zero:Ex JG:=⟨.inr ⟨rfl,rfl⟩,Tf.nil⟩
def ZC.I{b:Yg}(h:ZC b):Lw b:=⟨by have:=h.1.1;omega,h.1.2⟩
def Ex.qD{a:Qo}(h:Ex a):Lw a.p:=by
 rcases h.bal with q|q
 .exact q.I
 .unfold Lw;omega
structure Qb(C:List Cm)(l:Yn):Prop where
 ZH:0<=l.ZH/\l.ZH<=7
 JA:0<=l.JA/\l.JA<5
 to:0<=l.to/\l.to<5
 b:Lw l.b
 Zs:0<=l.v.Zs/\l.v.Zs<40
 vs:Tf l.vs
 cmd:l.ZH=4->l.v.cm∈C
def Th{β:Type}(m:Int)(l:List (Int × β)):Prop:=(l.map (·.1)).Nodup/\∀x∈l.map (·.1),0<=x/\x<m
def Th.nil{β:Type}(m:Int):Th m ([]:List (Int × β)):=⟨sW,fun x hx=>by (cases hx)⟩
def Th.ins{β:Type}{m:Int}{l:List (Int × β)}(h:Th m l){k:Int}(hk:0<=k/\k<m)(v:β):Th m (ins l k v):=by
 obtain⟨h1,h2⟩:=bC (k:=k) (v:=v) h.1;refine⟨h1,fun x hx=>?_⟩;rcases h2 x hx with rfl|q
 .exact hk
 .exact h.2 x q
def qE:∀(m:Nat) (l:List Int),l.Nodup->(∀x∈l,0<=x/\x<(m:Int))->(Q l)<=m:=by
 intro m
 induction m with
 | zero=>
  intro l _ h
  cases l with
  | nil=>simp
  | cons x l=>have:=h x sW;omega
 | succ m ih=>
  intro l hn h;have h1:=ih (l.erase (m:Int)) (hn.erase _) (fun x hx=>by
   have tp:=(List.Nodup.mem_erase_iff hn).1 hx;have:=h x tp.2;have:x≠(m:Int):=tp.1;omega)
  have:(Q l)<=(l.erase (m:Int)).length+1:=by rw[List.length_erase];split<;>omega
  omega
def Th.len{β:Type}{m:Nat}{l:List (Int × β)}(h:Th (m:Int) l):(Q l)<=m:=by
 have:=qE m _ h.1 h.2
 simpa using this
structure Oj(r:XM):Prop where
 b:Lw r.b
 ZL:Th 5 r.ZL
 vs:∀x∈r.ZL,Tf x.2
 Su:∀x∈r.YY,Th 5 x.2
def Zmc:Ny->Prop
 | .Q8 a to b vs=>Ex a/\(0<=to/\to<5)/\Lw b/\Tf vs
 | .Wo a to v=>Ex a/\(0<=to/\to<5)/\Yu v
 | .Zr a vs _=>Ex a/\Tf vs
structure Qq(C:List Cm)(i:Nat)(n:Nd):Prop where
 me:n.me=i
 Yw:0<=n.Yw/\n.Yw<5
 Zr:Ex n.Zr
 Ye:Lw n.Ye
 Zp:∀p,n.Zp=Y p->Zmc p
 Zh:∀r,n.Zh=Y r->Oj r
 Zi:Th 40 n.Zi
 ZI:∀j,j<n.ZI.length->(Yl n.Zi (j:Int)).isSome=true
 ZB:n.ZB.Nodup/\∀x∈n.ZB,x∈C
 data:(Q n.data)<=100000
def Qq.Kr{C:List Cm}(h:Qq C i n):n.ZI.length<=40:=by
 have h1:=GV n.Zi 0 n.ZI.length (fun j hj=>by simpa using h.ZI j hj);have h2:=h.Zi.len (m:=40);omega
def Re{p:Yg}{l:List Vt}{b:Yg}(h:YF p l b=0):ZC b:=by
 unfold YF at h;by_cases c1:Jw p l≠0
 .rw[if_pos c1]at h;cases h
 .rw[if_neg c1]at h;by_cases c2:¬ZC b
  .rw[if_pos c2]at h;cases h
  .simpa using c2
def Kt{p:Yg}{l:List Vt}{x:Vt}(h:Xc p l x=0):Yu x:=by
 unfold Xc at h;by_cases c1:Jw p l≠0
 .rw[if_pos c1]at h;cases h
 .rw[if_neg c1]at h;by_cases c2:¬Yu x
  .rw[if_pos c2]at h;cases h
  .simpa using c2
def bU{l:List Nat}{n:Int}{k:Nat}(h:JX l n k=0):(Q l)+(k+5)<=100000:=by
 unfold JX at h;by_cases c1:¬YT l n
 .rw[if_pos c1]at h;cases h
 .rw[if_neg c1]at h;by_cases c2:100000<(Q l)+(k+5)
  .rw[if_pos c2]at h;cases h
  .omega
def Lx{l:List Nat}{n:Int}{b:Yg}(h:Jn l n b=0):(Q l)+14<=100000:=by
 unfold Jn at h;by_cases c1:¬YT l n
 .rw[if_pos c1]at h;cases h
 .rw[if_neg c1]at h;by_cases c2:¬ZC b
  .rw[if_pos c2]at h;cases h
  .rw[if_neg c2]at h;exact bU h
def bV{l:List Nat}{n:Int}{x:Vt}(h:Qn l n x=0):(Q l)+38<=100000:=by
 unfold Qn at h;by_cases c1:¬YT l n
 .rw[if_pos c1]at h;cases h
 .rw[if_neg c1]at h;by_cases c2:¬Yu x
  .rw[if_pos c2]at h;cases h
  .rw[if_neg c2]at h;exact bU h
def RP(b:Yg):(YS (JF b)).length=14:=by rw[WN];rfl
def Ba(x:Vt):(YS (Uc x)).length=38:=by rw[WN];rfl
structure RQ(C:List Cm)(i:Nat)(n:Nd)(o:Out):Prop where
 nd:Qq C i o.n
 ls:∀l∈o.ls,Qb C l
 pQ:(Q o.ls)<=1
 ts:(Q o.ts)+o.n.Zq.length<=n.Zq.length
def RQ.same{C:List Cm}(h:Qq C i n):RQ C i n ⟨n,[],[]⟩:=⟨h,(fun l hl=>by cases hl),sW,sW⟩
def RQ.one{C:List Cm}(h:Qq C i n){l:Yn}(hl:Qb C l):RQ C i n ⟨n,[l],[]⟩:=⟨h,fun x hx=>by
 have:x=l:=by simpa using hx
 rw[this];exact hl,sW,sW⟩
def jp{C:List Cm}{l:Yn}(hi:i<5)(h:Qq C i n)(hl:Qb C l):RQ C i n (Y3 n l):=by
 have BI:0<=(n.me:Int)/\(n.me:Int)<5:=by rw[h.me];omega
 have v0:0<=SC.Zs/\SC.Zs<40:=KC;unfold Y3;by_cases c1:YF n.Zr.p n.Zr.l l.b≠0
 .rw[if_pos c1];exact RQ.one h ⟨sW,BI,hl.JA,h.Zr.qD,v0,Tf.nil,fun e=>by cases e⟩
 rw[if_neg c1];have hb:ZC l.b:=Re (by simpa using c1);by_cases c2:n.Zr.p=l.b
 .rw[if_pos c2];exact RQ.one h ⟨sW,BI,hl.JA,hl.b,v0,h.Zr.YY,fun e=>by cases e⟩
 rw[if_neg c2];by_cases c3:Jn n.data n.Y5 l.b≠0
 .rw[if_pos c3];exact RQ.same h
 rw[if_neg c3];have hd:=Lx (by simpa using c3);refine⟨{ h with Zp:=?_,data:=?_ },(fun x hx=>by cases hx),sW,sW⟩
 .intro p hp;obtain rfl:=Option.some.inj hp;exact⟨⟨.inl hb,h.Zr.YY⟩,hl.JA,hb.I,h.Zr.YY⟩
 .show (n.data++YS (JF l.b)).length<=100000;rw[al,RP];exact hd
def Zdq{C:List Cm}{l:Yn}(hi:i<5)(h:Qq C i n)(hl:Qb C l):RQ C i n (asked n l):=by
 have BI:0<=(n.me:Int)/\(n.me:Int)<5:=by rw[h.me];omega
 have v0:0<=SC.Zs/\SC.Zs<40:=KC;unfold asked;by_cases c1:Xc n.Zr.p n.Zr.l l.v≠0
 .rw[if_pos c1];exact RQ.one h ⟨sW,BI,hl.JA,h.Zr.qD,v0,Tf.nil,fun e=>by cases e⟩
 rw[if_neg c1];have hv:Yu l.v:=Kt (by simpa using c1);by_cases c2:l.v∈n.Zr.l
 .rw[if_pos c2];exact RQ.one h ⟨sW,BI,hl.JA,by unfold Lw X2;simp,hl.Zs,Tf.nil,fun e=>by cases e⟩
 rw[if_neg c2];by_cases c3:Qn n.data n.Y5 l.v≠0
 .rw[if_pos c3];exact RQ.same h
 rw[if_neg c3];have hd:=bV (by simpa using c3);refine⟨{ h with Zp:=?_,data:=?_ },(fun x hx=>by cases hx),sW,sW⟩
 .intro p hp;obtain rfl:=Option.some.inj hp;exact⟨⟨.inl hv.2.1,h.Zr.YY.ins hv⟩,hl.JA,hv⟩
 .show (n.data++YS (Uc l.v)).length<=100000;rw[al,Ba];exact hd
def zn{C:List Cm}{x:Cm}(h:Qq C i n)(hx:Yl n.Zi (n.ZI.length:Int)=Y x):Qq C i (QS n x)/\(RL n x).length+(QS n x).Zq.length<=n.Zq.length:=by
 refine⟨{ h with ZI:=?_,ZB:=?_ },?_⟩
 .intro j hj;have hj':j<(n.ZI++[x]).length:=hj;show (Yl n.Zi (j:Int)).isSome=true;rw[al,a5]at hj';by_cases e:j<n.ZI.length
  .exact h.ZI j e
  .have:j=n.ZI.length:=mD;subst this;rw[hx];rfl
 .exact⟨h.ZB.1.sublist bh,fun y hy=>h.ZB.2 y (a2.1 hy).1⟩
 .show (RL n x).length+(n.Zq.erase x).length<=n.Zq.length;unfold RL;by_cases c:x∈n.Zq
  .rw[if_pos c,bw c];have:=bA c;simp;omega
  .rw[if_neg c,List.erase_of_not_mem c];simp
def qF{C:List Cm}:∀(k:Nat) (n:Nd),Qq C i n->Qq C i (Yr k n).1/\(Yr k n).2.length+(Yr k n).1.Zq.length<=n.Zq.length:=by
 intro k
 induction k with
 | zero=>intro n h;exact⟨h,by simp[Yr]⟩
 | succ k ih=>
  intro n h;unfold Yr
  cases hx:Yl n.Zi (n.ZI.length:Int) with
  | none=>exact⟨h,sW⟩
  | some x=>
   obtain⟨h1,h2⟩:=zn h hx;obtain⟨h3,h4⟩:=ih _ h1;refine⟨h3,?_⟩;simp only[al];omega
def lK{C:List Cm}(h:Qq C i n)(s:Int)(x:Cm)(hs:0<=s/\s<40):RQ C i n (X9 n s x):=by
 have h1:Qq C i (XV n s x):={ h with
  Zi:=h.Zi.ins hs x
  ZI:=fun j hj=>by
   show (Yl (ins n.Zi s x) (j:Int)).isSome=true;rw[Xl];split
   .rfl
   .exact h.ZI j hj }
 obtain⟨h2,h3⟩:=qF ((XV n s x).Zi.length+1) (XV n s x) h1;exact⟨h2,(fun l hl=>by cases hl),by simp[X9],h3⟩
def Fb{β:Type}:∀{l:List (Int × β)} {k:Int} {v:β} {x:Int × β},x∈ins l k v->x.2=v\/x∈l:=by
 intro l
 induction l with
 | nil=>
  intro k v x hx;left;have:x=(k,v):=by simpa [ins] using hx
  rw[this]
 | cons y l ih=>
  intro k v x hx;obtain⟨a,b⟩:=y;unfold ins at hx;split at hx
  .rcases br.1 hx with rfl|hx
   .exact .inl rfl
   .exact .inr (by simp[hx])
  .rcases br.1 hx with rfl|hx
   .exact .inr sW
   .rcases ih hx with q|q
    .exact .inl q
    .exact .inr (by simp[q])
def jq{C:List Cm}{l:Yn}(hi:i<5)(h:Qq C i n)(hl:Qb C l):RQ C i n (Yx n l):=by
 unfold Yx
 cases hr:n.Zh with
 | none=>exact RQ.same h
 | some r=>
  have R:=h.Zh r hr;have hs:∀r',(Ta n r l).Zh=Y r'->Oj r':=by
   intro r' hr';obtain rfl:=Option.some.inj hr';refine⟨R.b,R.ZL,R.vs,fun x hx=>?_⟩;rcases Fb hx with q|q
   .rw[q];unfold Qp;refine Th.ins ?_ hl.JA ()
    cases hk:Yl r.YY l.v.Zs with
    | none=>exact Th.nil 5
    | some s=>exact R.Su _ (TW hk)
   .exact R.Su x q
  have hv:Qq C i (Ta n r l):={ h with Zh:=hs }
  simp only;split
  .split
   .refine⟨{ h with Zh:=fun r' hr'=>?_ },(fun x hx=>by cases hx),sW,by simp[ZcR]⟩;obtain rfl:=Option.some.inj hr';refine⟨R.b,R.ZL.ins hl.JA l.vs,fun x hx=>?_,R.Su⟩;rcases Fb hx with q|q
    .rw[q];exact hl.vs
    .exact R.vs x q
   .exact RQ.same h
  .split
   .exact RQ.same h
   .split
    .have:=lK hv l.v.Zs l.v.cm hl.Zs;exact⟨this.nd,this.ls,this.pQ,this.ts⟩
    .exact⟨hv,(fun x hx=>by cases hx),sW,by simp[Ta]⟩
def Ze7{C:List Cm}{x:Cm}(h:Qq C i n)(hx:x∈C):Qq C i (add n x):=by
 unfold add;split
 .exact h
 .rename_i q;refine { h with ZB:=⟨?_,fun y hy=>?_⟩ }
  .show (n.ZB++[x]).Nodup;rw[List.nodup_append];refine⟨h.ZB.1,sW,fun a ha b hb e=>?_⟩;have:b=x:=by simpa using hb
   exact q (.inl (by rw[<-this,<-e];exact ha))
  .have hy:y∈n.ZB++[x]:=hy;rcases aI.1 hy with hy|hy
   .exact h.ZB.2 y hy
   .have:y=x:=by simpa using hy
    rw[this];exact hx
def lL{C:List Cm}{l:Yn}(h:Qq C i n)(hl:Qb C l):Qq C i (Xo n l):=by
 unfold Xo;split
 .exact { h with Ye:=hl.b }
 .exact h
def Zdr{C:List Cm}{l:Yn}(hi:i<5)(h:Qq C i n)(hl:Qb C l):RQ C i n (JY n l):=by
 have BI:0<=(n.me:Int)/\(n.me:Int)<5:=by rw[h.me];omega
 have hn:=lL h hl;have hw:(Xo n l).Zq=n.Zq:=by unfold Xo;split<;>rfl
 unfold JY;split
 .next y _=>
  refine⟨hn,fun x hx=>?_,sW,by simp[hw]⟩;have:x=⟨6,n.me,l.JA,X2,QJ l.v.Zs X2 y,[]⟩:=by simpa using hx
  rw[this];exact⟨sW,BI,hl.JA,by unfold Lw X2;simp,hl.Zs,Tf.nil,fun e=>by cases e⟩
 .exact⟨hn,(fun x hx=>by cases hx),sW,by simp[hw]⟩
def Ok{C:List Cm}{l:Yn}(hi:i<5)(h:Qq C i n)(hl:Qb C l):RQ C i n (Zx n l):=by
 have hw:(Xo n l).Zq=n.Zq:=by unfold Xo;split<;>rfl
 unfold Zx;split
 .exact jp hi h hl
 split
 .exact jq hi h hl
 split
 .exact Zdq hi h hl
 split
 .rename_i e;refine⟨Ze7 h (hl.cmd e),(fun x hx=>by cases hx),sW,?_⟩;have:(add n l.v.cm).Zq=n.Zq:=by unfold add;split<;>rfl
  simp[this]
 split
 .exact Zdr hi h hl
 split
 .exact lK h _ _ hl.Zs
 .exact⟨lL h hl,(fun x hx=>by cases hx),sW,by simp[hw]⟩
def Qq.Zf{C:List Cm}(h:Qq C i n)(k:List Yn):Qq C i { n with Zf:=k }:={ h with }
def lP{C:List Cm}(hi:i<5):∀(k:List Yn) (n:Nd),Qq C i n->(∀l∈k,Qb C l) ->
  Qq C i (Zy n k).n/\(∀l∈(Zy n k).ls,Qb C l)/\(∀l∈(Zy n k).n.Zf,Qb C l)/\(Zy n k).ls.length+(Zy n k).n.Zf.length<=(Q k)/\(Zy n k).ts.length+(Zy n k).n.Zq.length<=n.Zq.length:=by
 intro k
 induction k with
 | nil=>
  intro n h _;unfold Zy;exact⟨h.Zf [],(fun x hx=>by cases hx),(fun x hx=>by cases hx),sW,sW⟩
 | cons l k ih=>
  intro n h hk;unfold Zy;split
  .exact⟨h.Zf _,(fun x hx=>by cases hx),hk,sW,sW⟩
  .have o:=Ok hi (h.Zf k) (hk l sW);obtain⟨h1,h2,h3,h4,h5⟩:=ih _ o.nd (fun x hx=>hk x (by simp[hx]));have ots:=o.ts;have of:=o.pQ;refine⟨h1,fun x hx=>?_,h3,?_,?_⟩
   .rcases aI.1 hx with hx|hx
    .exact o.ls x hx
    .exact h2 x hx
   .simp only[al,aX];omega
   .simp only[al];have:({ n with Zf:=k }:Nd).Zq=n.Zq:=rfl;rw[this]at ots;omega
def OW:∀{l C:List Cm},l.Nodup->(∀x∈l,x∈C)->(Q l)<=(Q C):=by
 intro l
 induction l with
 | nil=>intro C _ _;simp
 | cons x l ih=>
  intro C hn hs;rw[List.nodup_cons]at hn;have hx:=hs x sW;have h1:=ih (C:=C.erase x) hn.2 (fun y hy=>by
   have Xb:y≠x:=fun e=>hn.1 (by rw[<-e];exact hy);exact (List.mem_erase_of_ne Xb).2 (hs y (by simp[hy])))
  rw[bw hx]at h1;have:=bA hx;simp only[aX];omega
def Qq.hand{C:List Cm}{l:Yn}(h:Qq C i n)(hl:Qb C l)(hC:(Q C)<=100000)(hw:n.Zq.length<=100000){f t:Nat}(hf:f<=100000000000)(ht:t<=1000000):jh n l f t:=by
 have Lt:=h.Kr;have dJ:=h.Zi.len (m:=40);have hq:n.ZB.length<=(Q C):=OW h.ZB.1 h.ZB.2;refine⟨hl.ZH,mD,by have:=h.Zr.YY.len;omega,by have:=h.data;omega,mD,mD,mD,mD,mD,fun r s hr=>?_⟩
 cases hk:Yl r.YY s with
 | none=>simp
 | some x=>
  have:=(h.Zh r hr).Su _ (TW hk);have:(Q x)<=5:=this.len (m:=5);simp only[Option.getD_some];omega
def Qq.dut{C:List Cm}(h:Qq C i n)(hC:(Q C)<=100000){f:Nat}(hf:f<=100000000000):zi n f:=by
 have Lt:=h.Kr;have hq:n.ZB.length<=(Q C):=OW h.ZB.1 h.ZB.2;refine⟨mD,by have:=h.Zr.YY.len;omega,by have:=h.data;omega,fun r hr=>?_,mD,mD,h.Yw⟩;have R:=h.Zh r hr;have hp:r.ZL.length<=5:=R.ZL.len (m:=5);refine⟨fun x hx=>by have:=(R.vs x hx).len;omega,fun x hx v hv=>?_,mD⟩;have:=((R.vs x hx).1 v hv).1.2;omega
def zo{C:List Cm}(hi:i<5)(hC:(Q C)<=100000):∀(k:List Yn) (n:Nd),Qq C i n->(∀l∈k,Qb C l)->n.Zq.length<=100000->∀f t,f+(Q k)<=100000000000->t+n.Zq.length<=1000000->OU n k f t:=by
 intro k
 induction k with
 | nil=>intro n _ _ _ f t _ _;exact trivial
 | cons l k ih=>
  intro n h hk hw f t hf ht;simp only[aX]at hf;unfold OU;by_cases hp:n.Zp.isSome=true
  .exact .inl hp
  .have o:=Ok hi (h.Zf k) (hk l sW);have ots:=o.ts;have of:=o.pQ;have:({ n with Zf:=k }:Nd).Zq=n.Zq:=rfl;rw[this]at ots;exact .inr ⟨(h.Zf k).hand (hk l sW) hC hw mD mD,ih _ o.nd (fun x hx=>hk x (by simp[hx])) mD _ _ mD mD⟩
def zp{C:List Cm}(hi:i<5)(hC:(Q C)<=100000)(h:Qq C i n)(hk:∀l∈n.Zf,Qb C l)(hw:n.Zq.length<=100000){f t:Nat}(hf:f+n.Zf.length<=100000000000)(ht:t+n.Zq.length<=1000000):ji n f t:=by
 obtain⟨h1,h2,h3,h4,h5⟩:=lP hi n.Zf n h hk;exact⟨by have:=h.data;omega,mD,fun _=>zo hi hC n.Zf n h hk hw f t hf ht,fun _ _=>h1.dut hC mD⟩
def Zds{r:XM}{x:Cm}(R:Oj r):Oj (QT n r x):=by
 unfold QT;split
 .exact⟨R.b,R.ZL,R.vs,R.Su⟩
 .exact R
def qG:∀(l:List Cm) (r:XM),Oj r->Oj (Jp n r l):=by
 intro l
 induction l with
 | nil=>intro r R;exact R
 | cons x l ih=>intro r R;exact ih _ (Zds R)
def Zdt{r:XM}(R:Oj r):Oj (Xi n r):=by
 unfold Xi;refine qG _ _ ?_;split
 .exact R
 .exact⟨R.b,R.ZL,R.vs,R.Su⟩
def Bb:Lw X2:=by unfold Lw X2;simp
def Zhl{C:List Cm}{r:XM}(hi:i<5)(h:Qq C i n)(R:Oj r):Qq C i (Jf n r).n/\(∀l∈(Jf n r).ls,Qb C l)/\(Jf n r).n.Zf=n.Zf/\(Jf n r).n.Zq=n.Zq:=by
 have BI:0<=(n.me:Int)/\(n.me:Int)<5:=by rw[h.me];omega
 have v0:0<=SC.Zs/\SC.Zs<40:=KC;unfold Jf;split
 .split
  .exact⟨h,(fun x hx=>by cases hx),rfl,rfl⟩
  .rename_i hd;have hd:=Lx (by simpa using hd);refine⟨{ h with Zp:=?_,data:=?_ },(fun x hx=>by cases hx),rfl,rfl⟩
   .intro p hp;obtain rfl:=Option.some.inj hp;by_cases c:YF n.Zr.p n.Zr.l r.b=0
    .simp only[c,if_true];exact⟨⟨.inl (Re c),h.Zr.YY⟩,h.Zr.YY⟩
    .simp only[c,if_false];exact⟨Ex.zero,Tf.nil⟩
   .show (n.data++YS (JF r.b)).length<=100000;rw[al,RP];exact hd
 .split
  .refine⟨h,fun l hl=>?_,rfl,rfl⟩;unfold RM at hl;simp only[bz,bj]at hl;obtain⟨m,hm,hl⟩:=hl;split at hl
   .have:l=⟨0,n.me,m,r.b,SC,[]⟩:=by simpa using hl
    rw[this];exact⟨sW,BI,by simp only;omega,R.b,v0,Tf.nil,fun e=>by cases e⟩
   .cases hl
  .refine⟨{ h with Zh:=fun r' hr'=>?_ },fun l hl=>?_,rfl,rfl⟩
   .obtain rfl:=Option.some.inj hr';exact Zdt R
   .unfold U8 at hl;simp only[bz,bj]at hl;obtain⟨s,hs,hl⟩:=hl;unfold UM at hl;split at hl
    .split at hl
     .simp only[bz,bj]at hl;obtain⟨m,hm,hl⟩:=hl;unfold S7 at hl;split at hl
      .next x _ _ _=>
       have:l=⟨2,n.me,m,X2,QJ s (Xi n r).b x,[]⟩:=by simpa using hl
       rw[this];exact⟨sW,BI,by simp only;omega,Bb,by simp only[QJ];omega,Tf.nil,fun e=>by cases e⟩
      .cases hl
     .cases hl
    .cases hl
def Bc{C:List Cm}(h:Qq C i n):Qq C i (Zo n)/\(Zo n).Zf=n.Zf/\(Zo n).Zq=n.Zq:=by
 unfold Zo;split
 .split
  .exact⟨{ h with Zh:=fun r hr=>by cases hr },rfl,rfl⟩
  .exact⟨h,rfl,rfl⟩
 .exact⟨h,rfl,rfl⟩
def Zdu{C:List Cm}(hi:i<5)(h:Qq C i n):Qq C i (Z1 n).n/\(∀l∈(Z1 n).ls,Qb C l)/\(Z1 n).n.Zf=n.Zf/\(Z1 n).n.Zq=n.Zq:=by
 have BI:0<=(n.me:Int)/\(n.me:Int)<5:=by rw[h.me];omega
 unfold Z1;split
 .next r hr=>exact Zhl hi h (h.Zh r hr)
 .split
  .rename_i q;refine⟨h,fun l hl=>?_,rfl,rfl⟩;unfold U9 at hl;simp only[cg]at hl;obtain⟨x,hx,rfl⟩:=hl;have hb:ZC n.Zr.p:=by
    rcases h.Zr.bal with e|e
    .exact e
    .have:=q.1;omega
   exact⟨sW,BI,by simp only;have:=hb.2;omega,Bb,by simp[QJ],Tf.nil,fun _=>h.ZB.2 x hx⟩
  .exact⟨h,(fun x hx=>by cases hx),rfl,rfl⟩
def Zdv{C:List Cm}(h:Qq C i n):Lw (Uo n):=by
 unfold Uo;split
 .exact h.Ye
 .exact h.Zr.qD
def jr{C:List Cm}(hi:i<5)(hC:(Q C)<=100000)(h:Qq C i n):Qq C i (YH n).n/\(∀l∈(YH n).ls,Qb C l)/\(YH n).n.Zf=n.Zf/\(YH n).n.Zq=n.Zq/\(YH n).ls.length<=100201/\(YH n).ts=[]:=by
 obtain⟨s1,s2,s3⟩:=Bc h;obtain⟨d1,d2,d3,d4⟩:=Zdu hi s1;have hq:(Zo n).ZB.length<=(Q C):=OW s1.ZB.1 s1.ZB.2;have hls:=bK (Zo n);unfold YH;split
 .exact⟨d1,d2,by rw[d3,s2],by rw[d4,s3],mD,(Mi _).2.2.2.2.2⟩
 .have tt:0<=((Z1 (Zo n)).n.Yw+1)%5/\((Z1 (Zo n)).n.Yw+1)%5<5:=mD;have t1:Qq C i (Je (Z1 (Zo n)).n):={ d1 with Yw:=tt }
  have BI:0<=((Je (Z1 (Zo n)).n).me:Int)/\((Je (Z1 (Zo n)).n).me:Int)<5:=by rw[t1.me];omega
  refine⟨t1,fun l hl=>?_,by show (Z1 (Zo n)).n.Zf=_;rw[d3,s2],by show (Z1 (Zo n)).n.Zq=_;rw[d4,s3],?_,rfl⟩
  .rcases aI.1 hl with hl|hl
   .exact d2 l hl
   .unfold QU at hl;split at hl
    .rename_i q;have:l=⟨5,(Je (Z1 (Zo n)).n).me,(Je (Z1 (Zo n)).n).Yw,Uo (Je (Z1 (Zo n)).n),QJ (Je (Z1 (Zo n)).n).ZI.length X2 dQ,[]⟩:=by simpa using hl
     rw[this];exact⟨sW,BI,t1.Yw,Zdv t1,by simp only[QJ];have:=q.2;omega,Tf.nil,fun e=>by cases e⟩
    .cases hl
  .have:(QU (Je (Z1 (Zo n)).n)).length<=1:=by unfold QU;split<;>simp
   simp only[al];omega
def Fc{C:List Cm}(h:Qq C i n):Qq C i (ZJ n):=by
 refine { h with Zp:=(fun p hp=>by cases hp),data:=?_ };show (if YT n.data n.Y5 then n.data else []).length<=100000;split
 .exact h.data
 .simp
def Fe{C:List Cm}{p:Ny}(hi:i<5)(h:Qq C i n)(P:Zmc p):Qq C i (Yp n p).n/\(∀l∈(Yp n p).ls,Qb C l)/\(Yp n p).n.Zf=n.Zf/\(Yp n p).n.Zq=n.Zq/\(Yp n p).ls.length<=1/\(Yp n p).ts=[]:=by
 have BI:0<=(n.me:Int)/\(n.me:Int)<5:=by rw[h.me];omega
 have v0:0<=SC.Zs/\SC.Zs<40:=KC
 cases p with
 | Q8 a to b vs=>
  obtain⟨p1,p2,p3,p4⟩:=P;refine⟨{ h with Zr:=p1 },fun l hl=>?_,rfl,rfl,by simp[Yp],rfl⟩;have:l=⟨1,n.me,to,b,SC,vs⟩:=by simpa [Yp] using hl
  rw[this];exact⟨sW,BI,p2,p3,v0,p4,fun e=>by cases e⟩
 | Wo a to v=>
  obtain⟨p1,p2,p3⟩:=P;refine⟨{ h with Zr:=p1 },fun l hl=>?_,rfl,rfl,by simp[Yp],rfl⟩;have:l=⟨3,n.me,to,X2,v,[]⟩:=by simpa [Yp] using hl
  rw[this];exact⟨sW,BI,p2,Bb,by have:=p3.1;simp only;omega,Tf.nil,fun e=>by cases e⟩
 | Zr a vs cur=>
  obtain⟨p1,p2⟩:=P;refine⟨{ h with Zr:=p1,Zh:=fun r hr=>?_ },(fun x hx=>by cases hx),rfl,rfl,by simp[Yp],rfl⟩;have hr:(if cur=true then n.Zh.map (fun r=>{ r with ZL:=ins r.ZL n.me vs }) else n.Zh)=Y r:=hr;split at hr
  .rw[bD]at hr;obtain⟨r0,h0,rfl⟩:=hr;have R:=h.Zh r0 h0;refine⟨R.b,R.ZL.ins BI vs,fun x hx=>?_,R.Su⟩;rcases Fb hx with q|q
   .rw[q];exact p2
   .exact R.vs x q
  .exact h.Zh r hr
def Zhm{C:List Cm}(hi:i<5)(hC:(Q C)<=100000)(h:Qq C i n)(hk:∀l∈n.Zf,Qb C l):
  Qq C i (step n).n/\(∀l∈(step n).ls,Qb C l)/\(∀l∈(step n).n.Zf,Qb C l)/\(step n).ls.length+(step n).n.Zf.length<=n.Zf.length+100201/\(step n).ts.length+(step n).n.Zq.length<=n.Zq.length:=by
 unfold step;split
 .cases hp:n.Zp with
  | some p=>
   obtain⟨f1,f2,f3,f4,f5,f6⟩:=Fe hi (Fc h) (h.Zp p hp);refine⟨f1,f2,by simp only;rw[f3];exact hk,?_,?_⟩
   .simp only;rw[f3];show _+n.Zf.length<=_;omega
   .simp only;rw[f4,f6];show 0+n.Zq.length<=_;omega
  | none=>
   obtain⟨d1,d2,d3,d4,d5⟩:=lP hi n.Zf n h hk;simp only;split
   .exact⟨d1,d2,d3,mD,d5⟩
   .obtain⟨e1,e2,e3,e4,e5,e6⟩:=jr hi hC d1;refine⟨e1,fun l hl=>?_,by simp only;rw[e3];exact d3,?_,?_⟩
    .rcases aI.1 hl with hl|hl
     .exact d2 l hl
     .exact e2 l hl
    .simp only[al];rw[e3];omega
    .simp only;rw[e4,e6,List.append_nil];exact d5
 .exact⟨h,(fun x hx=>by cases hx),hk,sW,sW⟩
def Zhn{a a':Qo}{b:List Nat}(h:Jx a b=Y a')(ha:Ex a):Ex a':=by
 unfold Jx at h;split at h
 .split at h
  .rename_i q
   cases h
   exact⟨.inl (Re q),ha.YY⟩
  .cases h
 .split at h
  .split at h
   .cases h
   .split at h
    .rename_i q
     cases h
     have hv:=Kt q;exact⟨.inl hv.2.1,ha.YY.ins hv⟩
    .cases h
  .cases h
def Zdw(l:List Nat):∀(f:Nat) (a:Qo) (k:Nat),Ex a->Ex (GO l f a k).1:=by
 intro f
 induction f with
 | zero=>intro a k h;exact h
 | succ f ih=>
  intro a k h;unfold GO
  cases hs:Y6 l a k with
  | none=>exact h
  | some x=>
   refine ih _ _ ?_;unfold Y6 at hs;split at hs
   .rw[bD]at hs;obtain⟨y,hy,rfl⟩:=hs;exact Zhn hy h
   .cases hs
def zq(l:List Nat):Ex (Tb l).1:=Zdw l _ _ _ Ex.zero
def Hl{C:List Cm}{up:Bool}{data:List Nat}{Y5:Int}{Zr:Qo}(hd:(Q data)<=100000)(ho:Ex Zr):Qq C i (Yk i up data Y5 Zr):=
 ⟨rfl,by unfold Yk;simp,ho,Bb,(fun p hp=>by cases hp),(fun r hr=>by cases hr),Th.nil 40,(fun j hj=>by cases hj),⟨by simp[Yk],(fun x hx=>by cases hx)⟩,hd⟩
def qH{C:List Cm}(h:Qq C i n)(keep:Int):Qq C i (Yo i n keep)/\((Yo i n keep).Zf=[]/\(Yo i n keep).Zq=[]\/Yo i n keep=n):=by
 unfold Yo;split
 .split
  .refine⟨Hl ?_ Ex.zero,.inl ⟨rfl,rfl⟩⟩;have:=h.data;rw[a1];omega
  .exact⟨Hl sW Ex.zero,.inl ⟨rfl,rfl⟩⟩
 .exact⟨h,.inr rfl⟩
def DD{C:List Cm}(h:Qq C i n):Qq C i (started i n)/\((started i n).Zf=[]/\(started i n).Zq=[]\/started i n=n):=by
 unfold started;split
 .exact⟨h,.inr rfl⟩
 .refine⟨Hl ?_ ?_,.inl ⟨rfl,rfl⟩⟩
  .unfold Ln;have:=h.data;split
   .rw[a1];omega
   .simp
  .split
   .exact zq _
   .exact Ex.zero
def jt{C:List Cm}(h:Qq C i n):Qq C i (lead n)/\(lead n).Zf=n.Zf/\(lead n).Zq=n.Zq:=by
 unfold lead;split
 .exact⟨h,rfl,rfl⟩
 .rename_i q;refine⟨{ h with Zp:=?_,Zh:=fun r hr=>?_ },rfl,rfl⟩
  .intro p hp;have hp:Xz n.Zp=Y p:=hp
   cases hn:n.Zp with
   | none=>rw[hn]at hp;cases hp
   | some p0=>
    have P:=h.Zp p0 hn;rw[hn]at hp
    cases p0 with
    | Q8 a to b vs=>cases hp;exact P
    | Wo a to v=>cases hp;exact P
    | Zr a vs cur=>cases hp;exact P
  .obtain rfl:=Option.some.inj hr;refine⟨⟨?_,?_⟩,Th.nil 5,(fun x hx=>by cases hx),(fun x hx=>by cases hx)⟩
   .have h1:=h.Zr.qD.1;show 0<=(YM n).r;unfold YM;simp only;split<;>omega
   .have:¬65536<(YM n).r:=fun e=>q (.inr e);show (YM n).r<=65536;omega
def Mj(f:Nat->Nat):Nat:=f 0+f 1+f 2+f 3+f 4
def zr(f:Nat->Nat)(i a:Nat)(hi:i<5):Mj (fun j=>if j=i then a else f j)+f i=Mj f+a:=by
 unfold Mj
 match i,hi with
 | 0,_=>simp;omega
 | 1,_=>simp;omega
 | 2,_=>simp;omega
 | 3,_=>simp;omega
 | 4,_=>simp;omega
def lQ(f:Nat->Nat)(i:Nat)(hi:i<5):f i<=Mj f:=by
 unfold Mj
 match i,hi with
 | 0,_=>omega
 | 1,_=>omega
 | 2,_=>omega
 | 3,_=>omega
 | 4,_=>omega
structure WI(C:List Cm)(k:Nat)(w:Wd):Prop where
 nd:∀i,i<5->Qq C i (w.Zc i)
 QD:∀i,i<5->∀l∈(w.Zc i).Zf,Qb C l
 TA:∀l∈w.Zm,Qb C l
 room:w.Zm.length+Mj (fun i=>(w.Zc i).Zf.length)<=k*100300
 wait:w.ZG.length+Mj (fun i=>(w.Zc i).Zq.length)<=k
 YA:∀i,0<=w.YA i/\w.YA i<=k
def Ly(w:Wd)(i:Nat)(n:Nd)(g:Nd->Nat)(hi:i<5):Mj (fun j=>g (if j=i then n else w.Zc j))+g (w.Zc i)=Mj (fun j=>g (w.Zc j))+g n:=by
 have:=zr (fun j=>g (w.Zc j)) i (g n) hi;have e:(fun j=>g (if j=i then n else w.Zc j))=(fun j=>if j=i then g n else g (w.Zc j)):=by
  funext j;split<;>rfl
 rw[e];exact this
def WI.out{C:List Cm}{k:Nat}{w:Wd}(h:WI C k w)(hi:i<5){o:Out}(h1:Qq C i o.n)(h2:∀l∈o.ls,Qb C l)(h3:∀l∈o.n.Zf,Qb C l)(h4:(Q o.ls)+o.n.Zf.length<=(w.Zc i).Zf.length+100300)(h5:(Q o.ts)+o.n.Zq.length<=(w.Zc i).Zq.length+1):WI C (k+1) (w.out i o):=by
 unfold Wd.out;refine⟨fun j hj=>?_,fun j hj l hl=>?_,fun l hl=>?_,?_,?_,fun j=>by have:=h.YA j;simp only;omega⟩
 .by_cases e:j=i
  .subst e;simpa using h1
  .simp only[if_neg e];exact h.nd j hj
 .by_cases e:j=i
  .subst e;simp only[if_true]at hl;exact h3 l hl
  .simp only[if_neg e]at hl;exact h.QD j hj l hl
 .rcases aI.1 hl with hl|hl
  .exact h.TA l hl
  .exact h2 l hl
 .have:=Ly w i o.n (fun n=>n.Zf.length) hi;have hr:=h.room;simp only[al]at this ⊢;omega
 .have:=Ly w i o.n (fun n=>n.Zq.length) hi;have hr:=h.wait;simp only[al]at this ⊢;omega
def VF(w:Wd)(i:Nat)(n:Nd):w.set i n=w.out i ⟨n,[],[]⟩:=by
 unfold Wd.set Wd.out;simp
def WI.more{C:List Cm}{k:Nat}{w:Wd}(h:WI C k w):WI C (k+1) w:=
 ⟨h.nd,h.QD,h.TA,a6 h.room (bd _ (bl k)),a6 h.wait (bl k),fun i=>⟨(h.YA i).1,by have:=(h.YA i).2;omega⟩⟩
def WI.ok{C:List Cm}{k:Nat}{w:Wd}(h:WI C k w)(hC:(Q C)<=100000)(hk:k<=100000):WOk w:=by
 have hr:=h.room;have hw:=h.wait;have NL:∀i,i<5->(w.Zc i).Zf.length+w.Zm.length<=10030000000:=fun i hi=>by
  have:(w.Zc i).Zf.length<=_:=lQ (fun i=>(w.Zc i).Zf.length) i hi;omega
 have DU:∀i,i<5->(w.Zc i).Zq.length+w.ZG.length<=100000:=fun i hi=>by
  have:(w.Zc i).Zq.length<=_:=lQ (fun i=>(w.Zc i).Zq.length) i hi;omega
 refine⟨fun i hi=>(h.nd i hi).me,fun i hi=>zp hi hC (h.nd i hi) (h.QD i hi) (by have:=DU i hi;omega) (by have:=NL i hi;omega) (by have:=DU i hi;omega),fun i hi=>?_,fun i hi=>?_,fun i hi=>?_,fun i hi=>?_,fun i hi=>?_,?_,fun i hi=>?_,fun i hi=>?_,fun i hi r hr=>?_,fun l hl=>(h.TA l hl).to,?_⟩
 .have:=OW (h.nd i hi).ZB.1 (h.nd i hi).ZB.2;omega
 .have:=(h.nd i hi).Kr;omega
 .have:=DU i hi;omega
 .have:=NL i hi;omega
 .have:=(h.nd i hi).data;omega
 .have:=DU 0 mD;omega
 .have:=h.YA i;omega
 .have h1:=(h.nd i hi).Zr.qD;have h2:=(h.nd i hi).Ye;unfold Lw at h1 h2;omega
 .have h1:=((h.nd i hi).Zh r hr).b;unfold Lw at h1;omega
 .have:=NL 0 mD;omega
set_option maxRecDepth 100000
set_option maxHeartbeats 8000000 in
def Zho(h:Hp)(o:Ow)(wb:Nat)(YK:Nat->Nat)(Xu:WA)(w:Wd)(a:Ac)(dv:ak)(d:WY o h)(A:Qv o h wb YK Xu w)(ok:WOk w)(hk:1<=a.ZH/\a.ZH<=9)(hi:a.ZX<5)(iv:S9 o h dv a.data)(hrl:(Q a.data)<=140737488355328)(tb:dS o h):
  Zg a0 T 17 #[Zz wb,am (Rd a.ZH a.ZX a.at' a.keep dv).toArray] h fun v' h'=>∃o' Js Zvi,Kp Td o h o' h'/\Qv o' h' wb Zvi Js (act w a):=by
 obtain⟨pd,cd,hdv,U3⟩:=iv.1.fits;have aU:Pj dv:=by rw[hdv];exact U3
 subst hdv;refine Zg.XK [_,_] Tryz.func17 ?_;unfold Zz Rd;obtain⟨h1,Xp⟩:=ZP (h.push (U (Rd a.ZH a.ZX a.at' a.keep (O pd (Q a.data) cd)).toArray 36):Hp);have k1:Kp UN o h o h1:=by rw[Xp];exact Yv d _
 have x3:Z9 o h1 h.size (U (Rd a.ZH a.ZX a.at' a.keep (O pd (Q a.data) cd)).toArray 36):=⟨d _ (aw _),by rw[Xp];exact Zd⟩
 have e0:=Xp.symm;unfold Rd at e0;have A1:=A.Zo k1;have tb1:=tb.keep k1;have R1:=XP A1.wd.ZZ.2;have Rn:=R1.Zc;obtain⟨b,off,c,hn,hc5,hb,Lv⟩:=Te A1.wd;rw[hn]at Rn;have C3:=Za A1.wd.ZZ.2;have q0:hc h1 ⟨h.size,0,W⟩=Y (M H a.ZH):=Zn x3.2;have q1:hc h1 ⟨h.size,1,W⟩=Y (M H a.ZX):=Zn x3.2;have q2:hc h1 ⟨h.size,2,W⟩=Y (M H a.at'):=Zn x3.2;have q3:hc h1 ⟨h.size,3,W⟩=Y (M H a.keep):=Zn x3.2;have q4:hc h1 ⟨h.size,4,W⟩=Y (O pd (Q a.data) cd):=Zn x3.2;have l3:=Za x3.2;have ri:=Lv a.ZX hi;unfold Zz at ri;have CI:(a.ZX:Int)<5:=mD;obtain⟨na,N1⟩:=A1.nd a.ZX hi;have Vg:=Za N1.ZZ.2;have iv1:=iv.keep k1;have G6:a.ZH=1\/a.ZH=2\/a.ZH=3\/(a.ZH=4\/a.ZH=5\/a.ZH=6)\/a.ZH=7\/a.ZH=8\/a.ZH=9:=mD;rcases G6 with e|e|e|e|e|e|e
 ·-- a command
  have ea:act w a=Wq w a.ZX a.data:=by unfold act;rw[if_pos e]
  rw[ea];rw[e]at q0;have cs:=qB T h1 o wb YK Xu w a.ZX a.data (O pd (Q a.data) cd) k1.Yt A1 hi (ok.me _ hi) iv1 aU hrl tb1 (by have:=ok.ZB _ hi;omega) (by have:=ok.ZI _ hi;omega) (by have:=ok.Zq _ hi;omega) (by have:=ok.ZG;omega) (ok.YA _ hi);unfold Zz at cs;simp only[go_sem,e0,q0];refine VS.z (h1.size) [11] (.p 0 (.p 1 (.p 2 (.p 3 (.q 4 (.p 5 (.q 6 (.p 7 (.q 8 (.p 9 (.q 10 (.w 11 .nil)))))))))))) mixed sV ?_;simp only[go_sem,Rn,q1,q4,C3,l3,hb,CI,ri];refine cs.use ?_;rintro v' g ⟨o',Js,kk,A'⟩;simp only[go_sem];exact⟨o',Js,YK,(YQ k1).trans kk,A'⟩
 ·-- to lead
  have ea:act w a=w.set a.ZX (lead (w.Zc a.ZX)):=by unfold act;rw[if_neg mD,if_pos e]
  rw[ea];rw[e]at q0;have cs:=Zdo T h1 o wb a.ZX (YK a.ZX) na (w.Zc a.ZX) k1.Yt N1 (ok.Zvf _ hi) (ok.Kn _ hi);unfold Zz at cs;simp only[go_sem,e0,q0];refine VS.z (h1.size) [9] (.p 0 (.p 1 (.p 2 (.p 3 (.q 4 (.p 5 (.q 6 (.p 7 (.q 8 (.w 9 .nil)))))))))) mixed sV ?_;simp only[go_sem,Rn,q1,C3,l3,hb,CI,ri];refine cs.use ?_;rintro v' g ⟨o',a',kk,N'⟩;simp only[go_sem];exact⟨o',Xu,YK,(YQ k1).trans (YQ kk),A1.Yw (kk.mono fun t q=>.inr (.inr (.inr q))) N' (A1.wd.keep kk fun t q e=>by rw[q]at e;cases e)⟩
 ·-- a step
  have ea:act w a=w.out a.ZX (step (w.Zc a.ZX)):=by unfold act;rw[if_neg mD,if_neg mD,if_pos e]
  rw[ea];rw[e]at q0;have cs:=zj T h1 o wb a.ZX (YK a.ZX) YK na (w.Zc a.ZX) Xu w.Zm w.YA w.ZG k1.Yt N1 A1.wd tb1 (ok.step _ hi);unfold Zz at cs;simp only[go_sem,e0,q0];refine VS.z (h1.size) [9] (.p 0 (.p 1 (.p 2 (.p 3 (.q 4 (.p 5 (.q 6 (.p 7 (.q 8 (.w 9 .nil)))))))))) mixed sV ?_;simp only[go_sem,Rn,q1,C3,l3,hb,CI,ri];refine cs.use ?_;rintro v' g ⟨o',a',Js,kk,N',W'⟩;simp only[go_sem];exact⟨o',Js,YK,(YQ k1).trans (YQ kk),A1.Yw kk N' W'⟩
 ·-- a letter
  have ea:act w a=pick w a.at' (decide (a.ZH≠5)) (decide (a.ZH=6)):=by unfold act;rw[if_neg mD,if_neg mD,if_neg mD,if_pos e]
  rw[ea];have cs:=zk T h1 o wb YK Xu w a.at' (decide (a.ZH≠5)) (decide (a.ZH=6)) k1.Yt A1 ok.to (by have:=ok.room;omega) (fun j hj=>by have:=ok.Zf j hj;omega);unfold Zz at cs;rcases e with e|e|e
  all_goals
   rw[e]at q0 cs ⊢;rw[e]at e0;simp only[go_sem,e0,q0,q2];refine cs.use ?_;rintro v' g ⟨o',Js,kk,A'⟩;simp only[go_sem];exact⟨o',Js,YK,(YQ k1).trans kk,A'⟩
 ·-- all Zpg
  have ea:act w a=w.Zm.foldl JP { w with Zm:=[] }:=by unfold act;rw[if_neg mD,if_neg mD,if_neg mD,if_neg mD,if_pos e]
  rw[ea];rw[e]at q0;have Xa:=ok.room;obtain⟨pf,cf,hf,hfc⟩:=Rc A1.wd.Zm;have Rf:=R1.Zm;rw[hf]at Rf;obtain⟨g2,w2,W2,k2⟩:=A1.wd.DB (fl':=[]) (v:=O W 0 0) (Kp.refl k1.Yt (fun t=>t=.Zm)) ⟨[],rfl,Xm.nil _ _ _ _ _,fun x hx=>by cases hx⟩ (R1.C1 (O W 0 0) rfl);have A2:Qv o g2 wb YK { Xu with Zm:=O W 0 0 } { w with Zm:=[] }:=A1.Zdj k2 (by rintro t rfl;rfl) W2;have L2:We o .Zm g2 (O pf w.Zm.length cf) w.Zm:=by rw[<-hf];exact A1.wd.Zm.keep k2 tP
  have K2:Kp Td o h o g2:=(YQ k1).trans (YQ k2);simp only[go_sem,e0,q0,Rf,C3,w2];refine VS.Yq (fun F g=>F 0=au (Y ⟨wb,0,W⟩)/\F 118=O pf w.Zm.length cf/\F 119=M H w.Zm.length/\∃(j:Nat) (o':Ow),j<=w.Zm.length/\F 120=M H j/\Kp Td o h o' g/\Qv o' g wb YK { Xu with Zm:=O W 0 0 } ((w.Zm.take j).foldl JP { w with Zm:=[] })/\We o' .Zm g (O pf w.Zm.length cf) w.Zm)
   (fun F _=>w.Zm.length-(vi (F 120)).toNat) rfl ⟨rfl,rfl,rfl,0,o,bo _,rfl,K2,A2,L2⟩ ?_
  rintro F3 g3 ⟨f0,f118,f119,j,o3,hj,f120,K3,A3,L3⟩;by_cases ZV:j<w.Zm.length
  .have Z4:(j:Int)<w.Zm.length:=mD;obtain⟨v,b3,ZHx,c3,hv,hvc,hb3,Zhp,iv3⟩:=lJ L3 j ZV;simp only[Value.slice.injEq]at hv;obtain⟨rfl,_,rfl⟩:=hv;obtain⟨l,hl⟩:=ZP (w.Zm[j]);rw[<-hl]at Zhp iv3;have qr:l∈w.Zm:=by rw[hl];exact bc ZV
   obtain⟨pw,cw,rfl⟩:=iv3.ZN;obtain⟨g4,Lu⟩:=ZP (g3.push (U (XN l (O pw (Q l.vs) cw)).toArray 99):Hp);have k4:Kp UN o3 g3 o3 g4:=by rw[Lu];exact Yv K3.Yt _
   have x6:Z9 o3 g4 g3.size (U (XN l (O pw (Q l.vs) cw)).toArray 99):=⟨K3.Yt _ (aw _),by rw[Lu];exact Zd⟩
   have e4:=Lu.symm;have r6:rd g4 ⟨g3.size,0,W⟩ 14=Y (XN l (O pw (Q l.vs) cw)):=ZA x6.2 rfl;obtain⟨wj,hwj⟩:=ZP ((w.Zm.take j).foldl JP { w with Zm:=[] });rw[<-hwj]at A3;have XE:(w.Zm.take (j+1)).foldl JP { w with Zm:=[] } = JP wj l:=by
    rw[Y0 _ j ZV,<-hl,bp,<-hwj];rfl
   have cc:=C9 T g4 o3 wb YK _ wj l (O pw (Q l.vs) cw) k4.Yt (A3.Zo k4) (iv3.keep k4) (ok.to l qr) (fun i hi=>by
    have h1:=bT i (w.Zm.take j) { w with Zm:=[] };rw[<-hwj,a1]at h1;have h2:=ok.Zf i hi;have h3:=ok.room;have h4:(({ w with Zm:=[] }:Wd).Zc i).Zf.length=(w.Zc i).Zf.length:=rfl;omega)
   unfold Zz XN at cc;unfold XN at e4 r6 Zhp;simp only[go_sem,f0,f118,f119,f120,Z4,Zhp,e4,r6];refine cc.use ?_;rintro v' g5 ⟨o5,k5,A5⟩;simp only[go_sem,f120];unfold XI;refine⟨⟨f0,f118,f119,j+1,o5,ZV,rfl,(K3.trans (YQ k4)).trans (YQ k5),by rw[XE];exact A5,(L3.keep k4 (fun q=>q.elim)).keep k5 (by rintro⟨_,e⟩;cases e)⟩,?_⟩;simp only[vi,Zt,↓reduceIte,f120];omega
  .have Xw:¬(j:Int)<w.Zm.length:=mD;obtain rfl:j=w.Zm.length:=mD;rw[aF (aw _)]at A3;simp only[go_sem,f119,f120,Xw];exact⟨o3,_,YK,K3,A3⟩
 ·-- a Zmd
  have ea:act w a=w.set a.ZX (Yo a.ZX (w.Zc a.ZX) a.keep):=by unfold act;rw[if_neg mD,if_neg mD,if_neg mD,if_neg mD,if_neg mD,if_pos e]
  rw[ea];rw[e]at q0;obtain⟨n,EM⟩:=ZP (w.Zc a.ZX);have Zhq:=ok.data _ hi;rw[<-EM]at N1 Zhq;have P1:=ZS N1.ZZ.2 N1.pt.store.len;have P1u:=P1.up;simp only[go_sem,e0,q0];refine VS.mono (N:=fun F' g'=>Zk h1.size h1 g'/\F' 0=au (Y ⟨wb,0,W⟩)/\F' 3=au (Y ⟨h.size,0,W⟩)/\F' 7=au (Y ⟨YK a.ZX,0,W⟩)) ?_ ?_ (fun _ _ _ h=>h) (fun _ _ h=>h)
  .refine VS.z (h1.size) [] (.p 0 (.p 1 (.p 2 (.q 3 (.p 4 (.q 5 (.p 6 (.q 7 (.p 8 .nil))))))))) mixed sV ?_;simp only[go_sem,Rn,q1,C3,l3,hb,CI,ri]
   try exact Zk.refl _ _
  rintro F2 g2 ⟨b2,f0,f3,f7⟩;have Ng:=ZU k1.Yt b2;have A2:=A1.Zo Ng;have N2:=N1.Zo Ng;have K2:=k1.trans Ng;have y3:=x3.keep Ng;have P2:=ZS N2.ZZ.2 N2.pt.store.len;have lI:=P2.up;have Q3:=Za N2.ZZ.2;clear P1 P1u
  cases hu:n.up with
  | false=>
   rw[hu]at lI;have e1:Yo a.ZX (w.Zc a.ZX) a.keep=w.Zc a.ZX:=by unfold Yo;rw[<-EM,if_neg (by rw[hu];simp)]
   rw[e1,bP];simp only[go_sem,f7,lI];exact⟨o,Xu,YK,YQ K2,A2⟩
  | true=>
   rw[hu]at lI;obtain⟨pt,ct,tI⟩:=N2.pt.data.1.ZN;have tI:na.data=O pt (Q n.data) ct:=tI;have P2t:=P2.tape;rw[tI]at P2t;have ND:=N2.pt.data;rw[tI]at ND;obtain⟨L,Z,E,hLZ⟩:∃L Z E,PT n.data n.Y5 a.keep=(L,Z,E):=⟨_,_,_,rfl⟩
   have q3:hc g2 ⟨h.size,3,W⟩=Y (M H a.keep):=Zn y3.2;have l3:=Za y3.2;have call:∀G,Zk g2.size g2 G->Zg a0 T 28 #[am #[O pt (Q n.data) ct,M H n.Y5],M H a.keep] G fun v' h'=>Zk G.size G h'/\kF G.size h' v' (L,Z,E):=fun G hG=>by
    rw[<-hLZ];exact wG T G _ n.Y5 a.keep n.data (ND.bs.YJ hG) mD
   have wT:∀(G:Hp) (k:Nat) (m:Int) (p:Option Addr) (L c:Nat),G[k]? = Y (U [O W 0 0,M H 0].toArray 61)->wr G ⟨k,0,W⟩ [O p L c,M H m]=Y (G.setIfInBounds k (U [O p L c,M H m].toArray 61)):=fun G k m p L c hx=>by
    rw[Yh hx 0 _];rfl
   rw[jm a.ZX (w.Zc a.ZX) a.keep L Z E (by rw[<-EM];exact hu) (by rw[<-EM];exact hLZ)];simp only[go_sem,f7,lI];refine VS.mono (N:=fun F' g'=>F' 0=au (Y ⟨wb,0,W⟩)/\F' 3=au (Y ⟨h.size,0,W⟩)/\Zk g2.size g2 g'/\∃kt p c,F' 8=au (Y ⟨kt,0,W⟩)/\g'[kt]? = Y (U [O p (Q L) c,M H Z].toArray 61)/\S9 o g' (O p (Q L) c) L) ?_ ?_ (fun _ _ _ h=>h) (fun _ _ h=>h)
   .refine VS.z (g2.size) [6,11] (.p 0 (.p 1 (.p 2 (.q 3 (.p 4 (.q 5 (.or 6 (.p 7 (.p 8 (.p 9 (.s 10 (.w 11 (.p 12 .nil)))))) (.s 10 (.w 6 (.p 7 (.p 8 (.p 9 (.w 11 (.p 12 .nil)))))))))))))) mixed sV ?_;simp only[go_sem,f0,f3,f7,P2t,q3,Q3,l3]
    repeat' (first|with_reducible exact Zk.refl _ _|with_reducible exact Zk.push mD _|with_reducible refine And.intro ?_ ?_)
    all_goals first
     | (refine (call g2 (Zk.refl _ _)).use ?_
        rintro _ g5 ⟨b5,p5,c5,L',Z',E',hz,rfl,bs,hcc,yh⟩
        cases hz
        have s5:=b5.size;have kk:=ZU K2.Yt b5;have im:S9 o g5 (O p5 (Q L) c5) L:=Fa kk.Yt bs hcc fun b hb=>⟨K2.Yt b (yh b hb).1,(yh b hb).2⟩
        simp only[go_sem,b5];exact⟨f0,f3,_,_,_,rfl,Zd,im.keep (Yv kk.Yt _)⟩)
     | (refine (call (g2.push (U _ 61)) (Zk.push (aw _) _)).use ?_
        rintro _ g5 ⟨b5,p5,c5,L',Z',E',hz,rfl,bs,hcc,yh⟩
        cases hz
        have B5:Zk g2.size g2 g5:=(Zk.push (aw _) _).trans (b5.mono sW);have xA:=b5.get (k:=g2.size) sW Zd;have Pc:=wT _ _ Z p5 (Q L) c5 xA;have zA:=Za xA;have kk:=ZU K2.Yt B5;have im:S9 o g5 (O p5 (Q L) c5) L:=Fa kk.Yt bs hcc fun b hb=>⟨K2.Yt b (by have:=(yh b hb).1;rw[cu]at this;omega),(yh b hb).2⟩
        have ks:=bQ kk.Yt im zA (fun b hb=>by have:=(yh b hb).1;rw[cu]at this;omega) (U [O p5 (Q L) c5,M H Z].toArray 61);simp only[go_sem,B5,Pc,zA];exact⟨f0,f3,_,_,_,rfl,ZQ xA,ks⟩)
   clear f0 f3 f7;rintro F3 g3 ⟨f0,f3,b3,kt,p3,c3,f8,yt,im3⟩;have Tx:=ZU K2.Yt b3;have K3:=K2.trans Tx;have A3:=A2.Zo Tx;have z3:=y3.keep Tx;obtain⟨b,off,c,hn,hc5,hb,Lv⟩:=Te A3.wd;have R3:=XP A3.wd.ZZ.2;have Rn:=R3.Zc;rw[hn]at Rn;have C3:=Za A3.wd.ZZ.2;have q1:hc g3 ⟨h.size,1,W⟩=Y (M H a.ZX):=Zn z3.2;have l3:=Za z3.2;have rt:rd g3 ⟨kt,0,W⟩ 2=Y [O p3 (Q L) c3,M H Z]:=ZA yt rfl;have lt:=Za yt;have cb:Zg a0 T 22 #[M H a.ZX,am #[O p3 (Q L) c3,M H Z],am #[M H 0,M H 0,O W 0 0]] g3 _:=G8 T g3 o wb a.ZX (O p3 (Q L) c3) L Z (O W 0 0) JG K3.Yt im3 (Im.nil _ _ _ _);refine VS.z (g3.size) [12] (.p 0 (.p 1 (.p 2 (.q 3 (.p 4 (.q 5 (.p 6 (.q 7 (.q 8 (.p 9 (.s 10 (.p 11 (.w 12 .nil))))))))))))) mixed sV ?_;simp only[go_sem,f0,f3,f8,Rn,q1,rt,C3,l3,lt,hb,CI];refine cb.use ?_;rintro _ g4 ⟨nb,o4,a4,rfl,b4,k4,N4⟩;have W4:=A3.wd.keep k4 (by rintro t (rfl|rfl)<;>simp[Tg.of]);obtain⟨b',Zvl,c',g5,Nq,w5,k5,W5⟩:=DC k4.Yt W4 a.ZX nb hi;rw[hn]at Nq;simp only[Value.slice.injEq,Option.some.injEq,Addr.mk.injEq,true_and,and_true]at Nq;obtain⟨⟨rfl,rfl⟩,rfl⟩:=Nq;have hb4:b<g4.size:=ba hb b4.size;have N5:=N4.keep k5 (by rintro t rfl e;cases e);have K5:Kp Td o h o4 g5:=((YQ K3).trans (YQ k4)).trans (YQ k5);have z5:=(z3.keep k4).keep k5;unfold Zz at w5 ⊢;simp only[go_sem,b4,w5,hb4,CI];have R5:=XP W5.ZZ.2;have R5n:=R5.Zc;rw[hn]at R5n;obtain⟨b'',ZAv,c'',Zhr,_,hb5,Zvm⟩:=Te W5;rw[hn]at Zhr;simp only[Value.slice.injEq,Option.some.injEq,Addr.mk.injEq,true_and,and_true]at Zhr;obtain⟨⟨rfl,rfl⟩,rfl⟩:=Zhr;have ri5:=Zvm a.ZX hi;simp only[↓reduceIte]at ri5;unfold Zz at ri5;have jk:=Za W5.ZZ.2;have tJ:hc g5 ⟨h.size,1,W⟩=Y (M H a.ZX):=Zn z5.2;have l35:=Za z5.2;have Mg:=Za N5.ZZ.2;obtain⟨g6,w6,N6,k6⟩:=Ym.write (n:={ Yk a.ZX true L Z JG with up:=false }) (a:=a4) { N5.pt with } K5.Yt N5.ZZ ((XF N5.ZZ.2 N5.pt.store.len).up false);refine VS.z (g5.size) [10] (.p 0 (.p 1 (.p 2 (.q 3 (.p 4 (.q 5 (.p 6 (.q 7 (.p 8 (.p 9 (.w 10 .nil))))))))))) mixed sV ?_;simp only[go_sem,f0,f3,R5n,tJ,jk,l35,hb5,CI,ri5,Mg,w6];have kk:Kp (fun t=>t=.Zc\/t.of=Y a.ZX) o g3 o4 g6:=((k4.mono fun t q=>by rcases q with rfl|rfl<;>exact .inr rfl).trans (k5.mono fun t q=>.inl q)).trans (k6.mono fun t q=>.inr (by rw[q];rfl));exact⟨o4,Xu,_,K5.trans (YQ k6),A3.fresh kk N6 (W5.keep k6 (by rintro t rfl;simp[Tg.of]))⟩
 ·-- a start
  have ea:act w a=w.set a.ZX (started a.ZX (w.Zc a.ZX)):=by unfold act;rw[if_neg mD,if_neg mD,if_neg mD,if_neg mD,if_neg mD,if_neg mD]
  rw[ea];rw[e]at q0;obtain⟨n,EM⟩:=ZP (w.Zc a.ZX);have Zhq:=ok.data _ hi;rw[<-EM]at N1 Zhq;simp only[go_sem,e0,q0];refine VS.mono (N:=fun F' g'=>Zk h1.size h1 g'/\F' 0=au (Y ⟨wb,0,W⟩)/\F' 3=au (Y ⟨h.size,0,W⟩)/\F' 10=au (Y ⟨YK a.ZX,0,W⟩)) ?_ ?_ (fun _ _ _ h=>h) (fun _ _ h=>h)
  .refine VS.z (h1.size) [] (.p 0 (.p 1 (.p 2 (.q 3 (.p 4 (.q 5 (.p 6 (.q 7 (.p 8 .nil))))))))) mixed sV ?_;simp only[go_sem,Rn,q1,C3,l3,hb,CI,ri]
   try exact Zk.refl _ _
  rintro F2 g2 ⟨b2,f0,f3,f10⟩;have Ng:=ZU k1.Yt b2;have A2:=A1.Zo Ng;have N2:=N1.Zo Ng;have K2:=k1.trans Ng;have AG:=tb1.keep Ng;have y3:=x3.keep Ng;have P2:=ZS N2.ZZ.2 N2.pt.store.len;have lI:=P2.up;have Q3:=Za N2.ZZ.2
  cases hu:n.up with
  | true=>
   rw[hu]at lI;have e1:started a.ZX (w.Zc a.ZX)=w.Zc a.ZX:=by unfold started;rw[<-EM,if_pos hu]
   rw[e1,bP];simp only[go_sem,f10,lI];exact⟨o,Xu,YK,YQ K2,A2⟩
  | false=>
   rw[hu]at lI;obtain⟨pt,ct,tI,hct⟩:=N2.pt.data.1.fits;have tI:na.data=O pt (Q n.data) ct:=tI;have P2t:=P2.tape;rw[tI]at P2t;have ND:=N2.pt.data;rw[tI]at ND;obtain⟨D,hD⟩:=ZP (Ln n.data n.Y5);obtain⟨Z,hZ⟩:=ZP (iR n.data n.Y5);obtain⟨TJ,Zmf⟩:=ZP (if YT D Z then (Tb D).1 else JG);have es:started a.ZX (w.Zc a.ZX)=Yk a.ZX true D Z TJ:=by unfold started;rw[<-EM,if_neg (by rw[hu];simp),Zmf,hD,hZ]
   rw[es];have hDl:(Q D)<=1000000:=by
    rw[hD];unfold Ln;split
    .rw[a1];omega
    .simp
   simp only[go_sem,f10,lI,P2t];refine (pT T g2 _ n.Y5 n.data ND.bs hct mD AG.tk).use ?_;rintro v3 g3 ⟨R3,b3⟩;obtain⟨p3,c3,E3,rfl,o3⟩:∃p c E,v3=.tuple [am [O p (Q D) c,M H Z].toArray,M H E].toArray/\YB g2.size 5 g3 (O p (Q D) c) D:=by
    obtain⟨r,k,E,w',rfl,ob,hk,hr⟩:=R3;have h1:(if E=0 then n.data.take k else [])=D:=by
     rw[hD];unfold Ln;split at hr
     .rename_i q;rw[if_pos hr.1,if_pos q,OV hr.2]
     .rename_i q;rw[if_neg (show ¬E=0 by omega),if_neg q]
    have h2:(if E=0 then (if (k:Int)<n.Y5 then (k:Int) else n.Y5) else 0)=Z:=by
     rw[hZ];unfold iR;split at hr
     .rename_i q;rw[if_pos hr.1,if_pos q,OV hr.2]
     .rename_i q;rw[if_neg (show ¬E=0 by omega),if_neg q]
    rw[h1]at ob;rw[h2];obtain⟨p,c,rfl,_⟩:=ob.open;exact⟨p,c,E,rfl,ob⟩
   have Tx:=ZU K2.Yt b3;obtain⟨g4,Lu⟩:=ZP (g3.push (U [O p3 (Q D) c3,M H Z].toArray 61):Hp);have k4:Kp UN o g2 o g4:=by rw[Lu];exact Tx.push _
   have x11:Z9 o g4 g3.size (U [O p3 (Q D) c3,M H Z].toArray 61):=⟨Tx.Yt _ (aw _),by rw[Lu];exact Zd⟩
   have e4:=Lu.symm;have iD4:S9 o g4 (O p3 (Q D) c3) D:=by rw[Lu];exact S9.keep ⟨Im.Ws o3.Zr (fun b hb=>K2.Yt b hb),o3.byte⟩ (Yv Tx.Yt _)
   have r11:rd g4 ⟨g3.size,0,W⟩ 2=Y [O p3 (Q D) c3,M H Z]:=ZA x11.2 rfl;have tb4:=AG.keep k4;simp only[go_sem,e4,r11];refine (GM T g4 _ Z D iD4.bs mD tb4.tk).use ?_;rintro v5 g5 ⟨R5,b5⟩;obtain⟨p5,c5,E5,K5',rfl,o5⟩:∃p c E K,v5=.tuple [am [M H TJ.p.r,M H TJ.p.n,O p (Q TJ.l) c].toArray,M H K,M H E].toArray/\Tw o g5 (O p (Q TJ.l) c) TJ.l:=by
    obtain⟨r,k,E,w',rfl,ob,hk,_,hr⟩:=R5;have h1:r=TJ:=by
     rw[Zmf];split at hr
     .rw[if_pos KO,OV hr.2]
     .rw[if_neg KO];exact hr.2.1
    rw[h1]at ob ⊢;have im:Tw o g5 w' TJ.l:=Im.Ws ob.Zr (fun b hb=>k4.Yt b hb);obtain⟨p,c,rfl⟩:=im.ZN;exact⟨p,c,E,_,rfl,im⟩
   have Dw:=ZU k4.Yt b5;obtain⟨g6,Mh⟩:=ZP (g5.push (U [M H TJ.p.r,M H TJ.p.n,O p5 (Q TJ.l) c5].toArray 66):Hp);have k6:Kp UN o g4 o g6:=by rw[Mh];exact Dw.push _
   have x13:Z9 o g6 g5.size (U [M H TJ.p.r,M H TJ.p.n,O p5 (Q TJ.l) c5].toArray 66):=⟨Dw.Yt _ (aw _),by rw[Mh];exact Zd⟩
   have e6:=Mh.symm;have K6:Kp UN o h o g6:=(K2.trans k4).trans k6;have iD6:=iD4.keep k6;have iV6:Tw o g6 (O p5 (Q TJ.l) c5) TJ.l:=by rw[Mh];exact o5.keep (Yv Dw.Yt _)
   have A6:=(A2.Zo k4).Zo k6;have z3:=(y3.keep k4).keep k6;have z11:=x11.keep k6;clear hn hc5 hb Lv Rn C3 q1 l3 ri;obtain⟨b,off,c,hn,hc5,hb,Lv⟩:=Te A6.wd;have R6:=XP A6.wd.ZZ.2;have Rn:=R6.Zc;rw[hn]at Rn;have C3:=Za A6.wd.ZZ.2;have q1:hc g6 ⟨h.size,1,W⟩=Y (M H a.ZX):=Zn z3.2;have l3:=Za z3.2;have rt:rd g6 ⟨g3.size,0,W⟩ 2=Y [O p3 (Q D) c3,M H Z]:=ZA z11.2 rfl;have lt:=Za z11.2;have ra:rd g6 ⟨g5.size,0,W⟩ 3=Y [M H TJ.p.r,M H TJ.p.n,O p5 (Q TJ.l) c5]:=ZA x13.2 rfl;have la:=Za x13.2;have cb:=G8 T g6 o wb a.ZX (O p3 (Q D) c3) D Z (O p5 (Q TJ.l) c5) TJ K6.Yt iD6 iV6;simp only[go_sem,e6];refine VS.z (g6.size) [12] (.p 0 (.p 1 (.p 2 (.q 3 (.p 4 (.q 5 (.p 6 (.q 7 (.q 8 (.q 9 (.s 10 (.p 11 (.w 12 .nil))))))))))))) mixed sV ?_;simp only[go_sem,f0,f3,Rn,q1,rt,ra,C3,l3,lt,la,hb,CI];refine cb.use ?_;rintro _ g7 ⟨nb,o7,a7,rfl,b7,k7,N7⟩;have W7:=A6.wd.keep k7 (by rintro t (rfl|rfl)<;>simp[Tg.of]);obtain⟨b',Zvl,c',g8,Nq,w8,k8,W8⟩:=DC k7.Yt W7 a.ZX nb hi;rw[hn]at Nq;simp only[Value.slice.injEq,Option.some.injEq,Addr.mk.injEq,true_and,and_true]at Nq;obtain⟨⟨rfl,rfl⟩,rfl⟩:=Nq;have hb7:b<g7.size:=ba hb b7.size;have N8:=N7.keep k8 (by rintro t rfl e;cases e);have K8:Kp Td o h o7 g8:=((YQ K6).trans (YQ k7)).trans (YQ k8);unfold Zz at w8 ⊢;simp only[go_sem,b7,w8,hb7,CI];have kk:Kp (fun t=>t=.Zc\/t.of=Y a.ZX) o g6 o7 g8:=(k7.mono fun t q=>by rcases q with rfl|rfl<;>exact .inr rfl).trans (k8.mono fun t q=>.inl q);exact⟨o7,Xu,_,K8,A6.fresh kk N8 W8⟩
def Ff(YK:Nat->Nat)(j:Nat):List ak:=(List.range j).map fun i=>Zz (YK i)
def ju(YK:Nat->Nat)(j:Nat):Ff YK (j+1)=Ff YK j++[Zz (YK j)]:=by
 unfold Ff;rw[cx,bG];rfl
def jv(YK:Nat->Nat)(j nb:Nat):Ff (fun i=>if i=j then nb else YK i) j=Ff YK j:=by
 unfold Ff;apply List.map_congr_left;intro i hi;rw[bj]at hi;simp only;rw[if_neg mD]
set_option maxHeartbeats 4000000 in
def zu(h:Hp)(o:Ow)(d:WY o h):
  Zg a0 T 16 #[] h fun v' h'=>∃wb YK o' Xu,v'=Zz wb/\Kp Td o h o' h'/\Qv o' h' wb YK Xu Ud:=by
 refine Zg.XK [] Tryz.func16 ?_;obtain⟨wb,Zhs⟩:=ZP (h.size);obtain⟨g1,LO⟩:∃g1:Hp,g1=h.push (U (X6 (fun _=>0) ⟨O W 0 0,O W 0 0,O W 0 0⟩).toArray 58):=⟨_,rfl⟩
 have e1:=LO.symm;unfold X6 at e1;simp only at e1;have k1:Kp Td o h (QI o wb .world) g1:=by rw[LO,Zhs];exact ((Kp.refl d Td).push _).PI (aw _) sW trivial
 have B1:Wf (QI o wb .world) .world g1 wb (U (X6 (fun _=>0) ⟨O W 0 0,O W 0 0,O W 0 0⟩).toArray 58):=⟨XR,by rw[LO,Zhs];exact Zd⟩
 simp only[go_sem,e1];rw[<-Zhs];refine VS.Yq (fun F g=>F 1=au (Y ⟨wb,0,W⟩)/\∃(j:Nat) (o':Ow) (YK:Nat->Nat) (v:ak),j<=5/\F 5=M H j/\Kp Td o h o' g/\Wf o' .world g wb (U (X6 (fun _=>0) ⟨v,O W 0 0,O W 0 0⟩).toArray 58)/\Xm o' .Zc 59 1 g v j (Ff YK j)/\∀i,i<j->∃a,Z6 o' g wb i (YK i) a (Yk i true [] 0 JG))
  (fun F _=>5-(vi (F 5)).toNat) rfl ⟨rfl,0,_,fun _=>0,O W 0 0,mD,rfl,k1,B1,Xm.nil _ _ _ _ _,fun i hi=>by omega⟩ ?_
 clear B1 k1 e1 LO;rintro F2 g2 ⟨f1,j,o2,YK,v,hj,f5,K2,B2,O2,N2⟩;by_cases ZV:j<5
 .have Z4:(j:Int)<5:=mD;obtain⟨pv,cv,rfl,_⟩:=O2.ZN;have R2:=XP B2.2;have Rn:=R2.Zc;simp only at Rn;have C3:=Za B2.2;have cb:Zg a0 T 22 #[M H j,am #[O W 0 0,M H 0],am #[M H 0,M H 0,O W 0 0]] g2 _:=G8 T g2 o2 wb j (O W 0 0) [] 0 (O W 0 0) JG K2.Yt ⟨Im.nil _ _ _ _,fun x hx=>by cases hx⟩ (Im.nil _ _ _ _);simp only[go_sem,f1,f5,Z4];refine VS.z (g2.size) [10,13] (.p 0 (.p 1 (.p 2 (.p 3 (.q 4 (.p 5 (.p 6 (.p 7 (.s 8 (.s 9 (.w 10 (.p 11 (.p 12 (.w 13 .nil)))))))))))))) mixed sV ?_;simp only[go_sem,f1,f5,Rn,C3];refine cb.use ?_;rintro _ g3 ⟨nb,o3,a3,rfl,b3,k3,N3⟩;unfold Zz;simp only[go_sem,b3];obtain⟨g4,Lu⟩:=ZP (g3.push (U [Zz nb].toArray 59):Hp);have e4:=Lu.symm;unfold Zz at e4;rw[e4];have k4:Kp UN o3 g3 o3 g4:=by rw[Lu];exact Yv k3.Yt _
  have B4:=(B2.keep k3 (by rintro (e|e)<;>cases e)).keep k4 (fun q=>q);have O4:=(O2.keep k3 (by rintro (e|e)<;>cases e)).keep k4 (fun q=>q);have N4:=N3.Zo k4;have M4:∀i,i<j->∃a,Z6 o3 g4 wb i (YK i) a (Yk i true [] 0 JG):=fun i hi=>by
   obtain⟨a,N⟩:=N2 i hi;refine⟨a,(N.keep k3 ?_).Zo k4⟩;rintro t (rfl|rfl) e
   .have:=Option.some.inj e;omega
   .have:=Option.some.inj e;omega
  have x4:g4[g3.size]? = Y (U [Zz nb].toArray 59):=by rw[Lu];exact Zd
  have src:Sl 1 g4 (O (Y ⟨g3.size,0,W⟩) 1 1) 1 [Zz nb]:=⟨_,1,rfl,rfl,fun _=>⟨g3.size,0,rfl,fun i hi=>by
   rw[Zn x4,Y7,co];exact a8 hi⟩⟩
  refine Qg (E:=59) (n:=1) (bytes:=8) (k:=1) Zj2 Tryz.underlying55 ZqP ZqR rfl ZqQ O4 k4.Yt src rfl mD mD ?_;intro v' o5 g5 O5 k5 _;have k5:Kp (fun u=>u=.Zc) o3 g4 o5 g5:=k5;obtain⟨p5,c5,rfl,_⟩:=O5.ZN;have B5:=B4.keep k5 tP;have w5:=(XP B5.2).ZgV (O p5 (j+1) c5) rfl;have jk:=Za B5.2;obtain⟨g6,Mh⟩:∃g6,g6=g5.setIfInBounds wb (U (X6 (fun _=>0) ⟨O p5 (j+1) c5,O W 0 0,O W 0 0⟩).toArray 58):=⟨_,rfl⟩
  simp only at w5;rw[<-Mh]at w5;have k6:Kp (fun t=>t=.world) o5 g5 o5 g6:=by rw[Mh];exact (Kp.refl k5.Yt (fun t=>t=.world)).set B5.1 rfl _
  have B6:Wf o5 .world g6 wb (U (X6 (fun _=>0) ⟨O p5 (j+1) c5,O W 0 0,O W 0 0⟩).toArray 58):=⟨B5.1,by rw[Mh];exact ZQ B5.2⟩
  have K6:Kp Td o h o5 g6:=(((K2.trans (YQ k3)).trans (YQ k4)).trans (YQ k5)).trans (YQ k6);simp only[go_sem,w5,jk,f5];unfold XI;refine⟨⟨f1,j+1,o5,(fun i=>if i=j then nb else YK i),O p5 (j+1) c5,ZV,rfl,K6,B6,?_,fun i hi=>?_⟩,?_⟩
  .rw[ju,jv];simp only[↓reduceIte];exact O5.keep k6 tP
  .by_cases e:i=j
   .subst e;refine⟨a3,?_⟩;simp only[↓reduceIte];exact (N4.keep k5 (by rintro t rfl e;cases e)).keep k6 (by rintro t rfl e;cases e)
   .obtain⟨a,N⟩:=M4 i mD;refine⟨a,?_⟩;simp only[if_neg e];exact (N.keep k5 (by rintro t rfl e;cases e)).keep k6 (by rintro t rfl e;cases e)
  .simp only[vi,Zt,↓reduceIte,f5];omega
 .have Xw:¬(j:Int)<5:=mD;obtain rfl:j=5:=mD;simp only[go_sem,f1,f5,Xw];exact⟨wb,YK,o2,_,rfl,K2,⟨B2,O2,⟨[],rfl,Xm.nil _ _ _ _ _,fun x hx=>by cases hx⟩,Xm.nil _ _ _ _ _⟩,fun i hi=>N2 i hi⟩
def jw(h:Hp)(u:ak)(l:List Cm)(s:Ts Un.C 5 h u l)(hl:(Q l)<=2199023255552):
  Zg a0 T 18 #[u] h fun v' h'=>Qw h.size 49 Un.C 5 h' v' l/\Zk h.size h h':=by
 obtain⟨p,c,rfl,Vx⟩:=Jy s;refine Zg.XK [_] Tryz.func18 ?_
 cases p with
 | none=>
  have:l=[]:=by
   cases l with
   | nil=>rfl
   | cons x l=>obtain⟨b,o,hp,_⟩:=Vx sW;cases hp
  subst this;simp only[go_sem];exact Qw.nil _ _ _ _ _
 | some a=>
  simp only[go_sem];refine OH (E:=49) (B:=h.size) (n:=5) (bytes:=40) AH Tryz.underlying38 ZfV vP rfl Zj1 (fun _=>rfl) (Qw.Ec _ _ Un.C 5 _ _) sW (s.YJ (Zk.push (aw _) _)) vI mD ?_;intro v' h' ho hb _;simp only[go_sem];exact⟨by simpa using ho,(Zk.push (aw _) _).trans hb⟩
structure Raw where
 k:Int
 n:Int
 a:Int
 b:Int
 data:List Nat
def Raw.ac(x:Raw):Ac:=⟨x.k,x.n.toNat,x.a.toNat,x.b,x.data⟩
def Raw.err(x:Raw):Int:=Us x.k x.n x.a x.b (Q x.data)
def QW(x:Raw × ak):List ak:=Rd x.1.k x.1.n x.1.a x.1.b x.2
def Q4:List Raw->Int
 | []=>0
 | x :: l=>if x.err≠0 then x.err else Q4 l
def Sy(l:List Raw):Int:=if 100000<(Q l) then 1 else Q4 l
def Fg(x:Raw × ak):(QW x).length=5:=rfl
def Fh{l:List Raw}{j:Nat}(hj:j<(Q l))(h0:∀x∈l.take j,x.err=0)(h1:l[j].err≠0):Q4 l=l[j].err:=by
 induction l generalizing j with
 | nil=>simp at hj
 | cons y l ih=>
  cases j with
  | zero=>unfold Q4;rw[if_pos (by simpa using h1)];rfl
  | succ j=>
   unfold Q4;rw[if_neg (by simpa using h0 y sW)];exact ih (by simpa using hj) (fun x hx=>h0 x (by simp[hx])) (by simpa using h1)
def Ol{l:List Raw}(h0:∀x∈l,x.err=0):Q4 l=0:=by
 induction l with
 | nil=>rfl
 | cons y l ih=>unfold Q4;rw[if_neg (by simpa using h0 y sW)];exact ih fun x hx=>h0 x (by simp[hx])
def Fi{x:Raw}(h:x.err=0):(1<=x.k/\x.k<=9)/\(0<=x.n/\x.n<=4)/\(0<=x.a/\x.a<=1048576)/\(0<=x.b/\x.b<=100000)/\(Q x.data)<=2000:=by
 unfold Raw.err Us at h;by_cases c1:1<=x.k/\x.k<=9
 case neg=>rw[if_pos c1]at h;cases h
 rw[if_neg (by simpa using c1)]at h;by_cases c2:(Xx x.k/\¬(0<=x.n/\x.n<=4))\/(Qs x.k/\¬(0<=x.a/\x.a<=1048576))\/(x.k=8/\¬(0<=x.b/\x.b<=100000))
 .rw[if_pos c2]at h;cases h
 rw[if_neg c2]at h;by_cases c3:2000<(Q x.data)
 .rw[if_pos c3]at h;cases h
 rw[if_neg c3]at h;by_cases c4:(¬Xx x.k/\x.n≠0)\/(¬Qs x.k/\x.a≠0)\/(x.k≠8/\x.b≠0)\/(x.k≠1/\0<(Q x.data))
 .rw[if_pos c4]at h;cases h
 refine⟨c1,?_,?_,?_,mD⟩
 .by_cases q:Xx x.k
  .exact an fun e=>c2 (.inl ⟨q,e⟩)
  .have:x.n=0:=an fun e=>c4 (.inl ⟨q,e⟩);omega
 .by_cases q:Qs x.k
  .exact an fun e=>c2 (.inr (.inl ⟨q,e⟩))
  .have:x.a=0:=an fun e=>c4 (.inr (.inl ⟨q,e⟩));omega
 .by_cases q:x.k=8
  .exact an fun e=>c2 (.inr (.inr ⟨q,e⟩))
  .have:x.b=0:=an fun e=>c4 (.inr (.inr (.inl ⟨q,e⟩)));omega
def Y9(xs:List (Raw × ak)):List Raw:=xs.map (·.1)
def Nh:Ow:=fun _=>W
def RS(h:Hp):WY Nh h:=fun _ _=>rfl
def Fj{S:Tg->Prop}{h h':Hp}{o':Ow}(k:Kp S Nh h o' h'):Zk h.size h h':=
 ⟨k.size,fun b hb=>(k.keep b hb fun t ht=>by cases ht).1⟩
def tL:List ak:=[M H 0,aa false,aa false,aa false,aa false,aa false,O W 0 0,M H 0,M H 0,M H 0,M H 0,M H 0,O W 0 0]
def bW(w:Wd)(lv tv:ak):List ak:=[M H w.Zm.length,aa (w.Zc 0).up,aa (w.Zc 1).up,aa (w.Zc 2).up,aa (w.Zc 3).up,aa (w.Zc 4).up,lv,M H (w.YA 0),M H (w.YA 1),M H (w.YA 2),M H (w.YA 3),M H (w.YA 4),tv]
structure bX(h:Hp)(R:List ak)(w:Wd)(lv tv:ak)(vs:List ak):Prop where
 cells:R=bW w lv tv
 Zmg:Ts (fun v=>[v]) 1 h lv vs
 each:AE (fun v l=>Ts Un.C 5 h v l) vs [(w.Zc 0).ZI,(w.Zc 1).ZI,(w.Zc 2).ZI,(w.Zc 3).ZI,(w.Zc 4).ZI]
 ZG:Ts GQ 5 h tv w.ZG
 ZHH:AE (fun v (l:List Cm)=>∃p c,v=O p (Q l) c/\(Q l)<=c) vs [(w.Zc 0).ZI,(w.Zc 1).ZI,(w.Zc 2).ZI,(w.Zc 3).ZI,(w.Zc 4).ZI]
def Vi(B:Nat)(h:Hp)(R:List ak)(w:Wd)(lv tv:ak)(vs:List ak):Prop:=∀G:Hp,(∀b,B<=b->b<h.size->G[b]? = h[b]?)->bX G R w lv tv vs
def Vi.at{B:Nat}{h:Hp}{R:List ak}{w:Wd}{lv tv:ak}{vs:List ak}(s:Vi B h R w lv tv vs):bX h R w lv tv vs:=s h fun _ _ _=>rfl
def Vi.YJ{B:Nat}{h h':Hp}{R:List ak}{w:Wd}{lv tv:ak}{vs:List ak}(s:Vi B h R w lv tv vs)(b:Zk h.size h h'):Vi B h' R w lv tv vs:=
 fun G hG=>s G fun k h1 h2=>by rw[hG k h1 (ba h2 b.size)];exact b.block k h2
def Vi.set{B:Nat}{h:Hp}{R:List ak}{w:Wd}{lv tv:ak}{vs:List ak}(s:Vi B h R w lv tv vs){k:Nat}(hk:k<B)(x:Obj):Vi B (h.setIfInBounds k x) R w lv tv vs:=
 fun G hG=>s G fun b h1 h2=>by rw[hG b h1 (by simpa using h2),bf,if_neg mD]
def DF(B:Nat)(h':Hp)(v':ak)(l:List Raw):Prop:=
 if Sy l=0 then ∃R lv tv vs,v'=.tuple #[am R.toArray,M H 0]/\Vi B h' R (TG (l.map Raw.ac)) lv tv vs
 else v'=.tuple #[am tL.toArray,M H (Sy l)]
def DG{h:Hp}{v:ak}{l:List (Raw × ak)}(s:Ts QW 5 h v l):∃p c,v=O p (Q l) c/\(l≠[]->∃b o,p=Y ⟨b,o,W⟩/\b<h.size/\∀i (hi:i<(Q l)),rd h ⟨b,o+i*5,W⟩ 5=Y (QW l[i])):=by
 obtain⟨p,c,hv,hh⟩:=s.open Fg KC;refine⟨p,c,hv,fun Xb=>?_⟩;obtain⟨b,o,h1,h2,h3⟩:=hh Xb;exact⟨b,o,h1,h2,fun i hi=>(h3 i hi).rd (by simp[QW,Rd]) rfl⟩
def bY(w:Wd)(j:Nat)(lv tv:ak):List ak:=[M H w.Zm.length,aa (if 0<j then (w.Zc 0).up else false),aa (if 1<j then (w.Zc 1).up else false),aa (if 2<j then (w.Zc 2).up else false),aa (if 3<j then (w.Zc 3).up else false),aa (if 4<j then (w.Zc 4).up else false),lv,M H (w.YA 0),M H (w.YA 1),M H (w.YA 2),M H (w.YA 3),M H (w.YA 4),tv]
def lT(w:Wd)(j:Nat)(lv tv:ak):(bY w j lv tv).length=13:=rfl
def Zht(w:Wd)(j:Nat)(lv tv:ak)(hj:j<5):(bY w j lv tv).set (1+j) (aa (w.Zc j).up)=bY w (j+1) lv tv:=by
 match j,hj with
 | 0,_=>rfl
 | 1,_=>rfl
 | 2,_=>rfl
 | 3,_=>rfl
 | 4,_=>rfl
def Zdx(w:Wd)(j:Nat)(lv lv' tv:ak):(bY w j lv tv).set 6 lv'=bY w j lv' tv:=rfl
def Ku(w:Wd)(j:Nat):List (List Cm):=(List.range j).map fun i=>(w.Zc i).ZI
def bZ(w:Wd)(j:Nat):Ku w (j+1)=Ku w j++[(w.Zc j).ZI]:=by
 unfold Ku;rw[cx,bG];rfl
def jx(t:Tg):Prop:=t=.ZI 100\/t=.ZI 101
def Lz{α β:Type}{R R':α->β->Prop}{l:List α}{k:List β}(s:AE R l k)(h:∀x y,R x y->R' x y):AE R' l k:=by
 induction s with
 | nil=>exact .nil
 | cons a _ ih=>exact .cons (h _ _ a) ih
def qI(l:List ak):ZT (fun v=>[v]) l=l:=by
 induction l with
 | nil=>rfl
 | cons x l ih=>
  have:ZT (fun v=>[v]) (x :: l)=[x]++ZT (fun v=>[v]) l:=by simp[ZT]
  rw[this,ih];rfl
def zv{o:Ow}{t:Tg}{E:TypeId}{n m b:Nat}{h:Hp}{v:ak}{cs:List ak}(s:Xm o t E n h v m cs)(hb:Ya v=Y b):o b=Y t:=by
 rcases s with⟨⟨q,rfl⟩,_,_⟩|⟨b',j,cap,pre,ZE,h1,rfl,h3,h4,h5,h6,h7⟩
 .cases q<;>simp[Ya]at hb
 .unfold Ya at hb;simp only at hb;split at hb
  .cases hb
  .have:=Option.some.inj hb;rw[<-this];exact h1
def lU{o:Ow}{t:Tg}{E:TypeId}{n m:Nat}{h G:Hp}{v:ak}{cs:List ak}(s:Xm o t E n h v m cs)(hG:∀b,o b=Y t->b<h.size->G[b]? = h[b]?):Xm o t E n G v m cs:=by
 rcases s with s|⟨b',j,cap,pre,ZE,h1,rfl,h3,h4,h5,h6,h7⟩
 .exact .inl s
 .exact .inr ⟨b',j,cap,pre,ZE,h1,rfl,by rw[hG b' h1 (Za h3)];exact h3,h4,h5,h6,h7⟩
def Zmh{o:Ow}{n m:Nat}{h G:Hp}{v:ak}{cs:List ak}(s:Im o n h v m cs)(hG:∀b,Ya v=Y b->b<h.size->G[b]? = h[b]?):Sl n G v m cs:=by
 obtain⟨⟨p,c,rfl,hl,hcc⟩,⟨p',c',he,hm⟩,hf⟩:=s;simp only[Value.slice.injEq,true_and]at he;obtain⟨rfl,rfl⟩:=he;refine⟨p,c,rfl,hl,fun Xb=>?_⟩;obtain⟨b,off,rfl,XH⟩:=hcc Xb;have Ca:c≠0:=by
  intro e;have:m=0:=mD;rw[this,Nat.zero_mul]at hl;exact Xb (List.eq_nil_of_length_eq_zero hl)
 have hb:Ya (O (Y ⟨b,off,W⟩) m c)=Y b:=by unfold Ya;simp only;rw[if_neg Ca]
 refine⟨b,off,rfl,fun i hi=>?_⟩;have h1:=XH i hi;have h2:=hG b hb (hf b hb).1;unfold V.hc at h1 ⊢;rw[h2];exact h1
def ce{S:Tg->Prop}{h h':Hp}{o':Ow}{t:Tg}{b:Nat}(k:Kp S Nh h o' h')(hb:o' b=Y t):h.size<=b:=by
 refine an fun q=>?_;obtain⟨_,h2⟩:=k.keep b mD (fun t ht=>by cases ht);rw[hb]at h2;cases h2
set_option maxHeartbeats 8000000 in
def Zdy(h:Hp)(v:ak)(xs:List (Raw × ak))(hv:Ts QW 5 h v xs)(hx:∀x∈xs,S9 Nh h x.2 x.1.data)(tb:dS Nh h)(CQ:xs.length<=4611686018427387904)(inv:(∀x∈Y9 xs,x.err=0)->xs.length<=100000->∀j,j<=xs.length->WOk (TG (((Y9 xs).take j).map Raw.ac))):
  Zg a0 T 11 #[v] h fun v' h'=>Zk h.size h h'/\DF h.size h' v' (Y9 xs):=by
 obtain⟨p,c,rfl,XH⟩:=DG hv;refine Zg.LY [_] Tryz.func11 ?_;obtain⟨h1,Xp⟩:=ZP (h.push (.cells tL.toArray 30):Hp);have e1:=Xp.symm;unfold tL at e1;have b1:Zk h.size h h1:=by rw[Xp];exact Zk.push (aw _) _
 have s1:h1.size=h.size+1:=by rw[Xp];simp
 have x2:h1[h.size]? = Y (.cells tL.toArray 30):=by rw[Xp];exact Zd
 have rl:(Y9 xs).length=xs.length:=by unfold Y9;simp
 have rz:∀G:Hp,Zk h1.size h1 G->G[h.size]? = Y (.cells tL.toArray 30):=fun G hG=>hG.get mD x2;have wz:∀G:Hp,Zk h1.size h1 G->wr G ⟨h.size,0,W⟩ [.int .i64 0,.bool false,.bool false,.bool false,.bool false,.bool false,.slice W 0 0,.int .i64 0,.int .i64 0,.int .i64 0,.int .i64 0,.int .i64 0,.slice W 0 0]=Y G:=fun G hG=>by
  rw[Yh (rz G hG) 0 _];have:(G.setIfInBounds h.size (.cells (Xd tL 0 [.int .i64 0,.bool false,.bool false,.bool false,.bool false,.bool false,.slice W 0 0,.int .i64 0,.int .i64 0,.int .i64 0,.int .i64 0,.int .i64 0,.slice W 0 0]).toArray 30))=G:=La (rz G hG);rw[if_pos ⟨by simp[tL],rfl⟩];exact congrArg Y this
 have rr:∀G:Hp,Zk h1.size h1 G->rd G ⟨h.size,0,W⟩ 13=Y [.int .i64 0,.bool false,.bool false,.bool false,.bool false,.bool false,.slice W 0 0,.int .i64 0,.int .i64 0,.int .i64 0,.int .i64 0,.int .i64 0,.slice W 0 0]:=fun G hG=>ZA (rz G hG) rfl;have w0:=wz h1 (Zk.refl _ _);have r0:=rr h1 (Zk.refl _ _);have l0:=Za x2;by_cases Zfm:100000<xs.length
 .have zw:(xs.length:Int)>100000:=mD;have e2:Sy (Y9 xs)=1:=by unfold Sy;rw[rl,if_pos Zfm]
  simp only[go_sem,e1,zw,w0,r0];refine⟨b1,?_⟩;unfold DF;rw[e2,if_neg KC];rfl
 have zw:¬(xs.length:Int)>100000:=mD;have Zhu:xs.length<=100000:=mD;have e2:Sy (Y9 xs)=Q4 (Y9 xs):=by unfold Sy;rw[rl,if_neg Zfm]
 have Bd:∀i (hi:i<xs.length),(Y9 xs)[i]'(by rw[rl];exact hi)=xs[i].1:=fun i hi=>by unfold Y9;simp
 simp only[go_sem,e1,zw];refine VS.Yq (fun F g=>F 0=.slice p xs.length c/\F 2=.pointer (Y ⟨h.size,0,W⟩)/\F 17=.slice p xs.length c/\F 18=.int .i64 xs.length/\Zk h1.size h1 g/\∃j:Nat,j<=xs.length/\F 19=.int .i64 j/\∀x∈(Y9 xs).take j,x.err=0)
  (fun F _=>xs.length-(vi (F 19)).toNat) rfl ⟨rfl,rfl,rfl,rfl,Zk.refl _ _,0,bo _,rfl,fun x hx=>by simp at hx⟩ ?_
 rintro F2 g2 ⟨f0,f2,f17,f18,b2,j,hj,f19,hz⟩;by_cases ZV:j<xs.length
 .have Z4:(j:Int)<xs.length:=mD;obtain⟨bb,oo,rfl,Tu,Lv⟩:=XH (by intro e;rw[e]at ZV;simp at ZV);obtain⟨x,OM⟩:=ZP (xs[j]);have hxm:x∈xs:=by rw[OM];exact bc ZV
  have iv:=hx x hxm;obtain⟨pd,cd,Pv⟩:=iv.1.ZN;have r1:rd g2 ⟨bb,oo+j*5,W⟩ 5=Y (QW x):=by rw[Q9 (b1.trans (b2.mono mD)) Tu,OM];exact Lv j ZV
  unfold QW Rd at r1;rw[Pv]at r1;obtain⟨g3,jd⟩:=ZP (g2.push (.cells (Rd x.1.k x.1.n x.1.a x.1.b (.slice pd x.1.data.length cd)).toArray 36):Hp);have e3:=jd.symm;have y3:g3[g2.size]? = Y (.cells (Rd x.1.k x.1.n x.1.a x.1.b (.slice pd x.1.data.length cd)).toArray 36):=by rw[jd];exact Zd
  have r3:rd g3 ⟨g2.size,0,W⟩ 5=Y (Rd x.1.k x.1.n x.1.a x.1.b (.slice pd x.1.data.length cd)):=ZA y3 rfl;unfold Rd at e3 r3;have b3:Zk h1.size h1 g3:=by rw[jd];exact b2.Y1 b2.size _
  have ck:=Em T g3 x.1.k x.1.n x.1.a x.1.b pd x.1.data.length cd;unfold Gq at ck;simp only[go_sem,f0,f2,f17,f18,f19,Z4,r1,e3,r3];refine ck.use ?_;rintro _ g4 ⟨rfl,b4⟩;have B4:Zk h1.size h1 g4:=b3.trans (b4.mono b3.size);have exr:x.1.err=Us x.1.k x.1.n x.1.a x.1.b x.1.data.length:=rfl;rw[<-exr];by_cases hex:x.1.err=0
  .simp only[go_sem,hex,f19];unfold XI;refine⟨⟨f0,f2,f17,f18,B4,j+1,ZV,rfl,fun y hy=>?_⟩,?_⟩
   .rw[Y0 _ j (by rw[rl];exact ZV),aI]at hy;rcases hy with hy|hy
    .exact hz y hy
    .rw[Bd j ZV,<-OM]at hy;have:y=x.1:=by simpa using hy
     rw[this];exact hex
   .simp only[vi,Zt,↓reduceIte,f19];omega
  .have w4:=wz g4 B4;have r4:=rr g4 B4;have l4:=Za (rz g4 B4);simp only[go_sem,hex,w4,r4,f2,l4];refine⟨b1.trans (B4.mono mD),?_⟩;unfold DF;have:Q4 (Y9 xs)=x.1.err:=by
    have:=Fh (l:=Y9 xs) (j:=j) (by rw[rl];exact ZV) hz (by rw[Bd j ZV,<-OM];exact hex);rw[this,Bd j ZV,<-OM]
   rw[e2,this,if_neg hex];rfl
 have Xw:¬(j:Int)<xs.length:=mD;obtain rfl:j=xs.length:=mD;have XT:∀x∈Y9 xs,x.err=0:=fun x hx=>hz x (by rw[aF mD];exact hx);have hzero:Sy (Y9 xs)=0:=by rw[e2];exact Ol XT
 have inv:=inv XT Zhu;simp only[go_sem,f18,f19,Xw];refine (zu T g2 Nh (RS g2)).use ?_;rintro _ g3 ⟨wb,Zvo,o3,WA3,rfl,K3,A3⟩;unfold Zz;have bh2:Zk h.size h g2:=b1.trans (b2.mono mD);have kh2:Kp Td Nh h Nh g2:=Kp.H8 (RS h) bh2 _;obtain⟨qJ,jy⟩:=ZP ((Y9 xs).map Raw.ac);have Zmi:qJ.length=xs.length:=by rw[jy,bg,rl]
 have inv:∀j,j<=xs.length->WOk (TG (qJ.take j)):=fun j hj=>by
  have:=inv j hj;rw[jy,<-cz];exact this
 simp only[go_sem,f0,f2];refine VS.Yq (fun F g=>F 2=.pointer (Y ⟨h.size,0,W⟩)/\F 7=.pointer (Y ⟨wb,0,W⟩)/\F 31=.slice p xs.length c/\F 32=.int .i64 xs.length/\∃(j:Nat) (o':Ow) (YK:Nat->Nat) (Js:WA),j<=xs.length/\F 33=.int .i64 j/\Kp Td Nh g2 o' g/\Qv o' g wb YK Js (TG (qJ.take j)))
  (fun F _=>xs.length-(vi (F 33)).toNat) rfl ⟨f2,rfl,rfl,rfl,0,o3,Zvo,WA3,bo _,rfl,K3,A3⟩ ?_
 clear f0 f2 f17 f18 f19 K3 A3;rintro F4 g4 ⟨f2,f7,f31,f32,j,o4,Zvp,lH,hj,f33,K4,A4⟩;by_cases ZV:j<xs.length
 .have Z4:(j:Int)<xs.length:=mD;obtain⟨bb,oo,rfl,Tu,Lv⟩:=XH (by intro e;rw[e]at ZV;simp at ZV);obtain⟨x,OM⟩:=ZP (xs[j]);have hxm:x∈xs:=by rw[OM];exact bc ZV
  have hxe:x.1.err=0:=XT x.1 (by unfold Y9;exact List.mem_map_of_mem hxm);obtain⟨q1,q2,q3,q4,q5⟩:=Fi hxe;have Kh4:Kp Td Nh h o4 g4:=kh2.trans K4;have iv:=(hx x hxm).keep Kh4;obtain⟨pd,cd,Pv⟩:=iv.1.ZN;have r1:rd g4 ⟨bb,oo+j*5,W⟩ 5=Y (QW x):=by rw[Q9 (Fj Kh4) Tu,OM];exact Lv j ZV
  unfold QW Rd at r1;rw[Pv]at r1 iv;obtain⟨g5,zh⟩:=ZP (g4.push (.cells (Rd x.1.k x.1.n x.1.a x.1.b (.slice pd x.1.data.length cd)).toArray 36):Hp);have e5:=zh.symm;have k5:Kp UN o4 g4 o4 g5:=by rw[zh];exact Yv K4.Yt _
  have y5:g5[g4.size]? = Y (.cells (Rd x.1.k x.1.n x.1.a x.1.b (.slice pd x.1.data.length cd)).toArray 36):=by rw[zh];exact Zd
  have r5:rd g5 ⟨g4.size,0,W⟩ 5=Y (Rd x.1.k x.1.n x.1.a x.1.b (.slice pd x.1.data.length cd)):=ZA y5 rfl;unfold Rd at e5 r5;have en:((x.1.n.toNat:Nat):Int)=x.1.n:=mD;have ea:((x.1.a.toNat:Nat):Int)=x.1.a:=mD;have cd2:=Zho T g5 o4 wb Zvp lH (TG (qJ.take j)) x.1.ac (.slice pd x.1.data.length cd) k5.Yt (A4.Zo k5) (inv j hj) q1 (by unfold Raw.ac;simp only;omega) (iv.keep k5) (by unfold Raw.ac;simp only;omega) ((tb.keep Kh4).keep k5);unfold Zz Rd Raw.ac at cd2;simp only at cd2;rw[en,ea]at cd2;have XE:TG (qJ.take (j+1))=act (TG (qJ.take j)) ⟨x.1.k,x.1.n.toNat,x.1.a.toNat,x.1.b,x.1.data⟩:=by
   rw[Y0 _ j (by rw[Zmi];exact ZV)];unfold TG;rw[bp];have:qJ[j]'(by rw[Zmi];exact ZV)=⟨x.1.k,x.1.n.toNat,x.1.a.toNat,x.1.b,x.1.data⟩:=by
    simp only[jy,List.getElem_map,Bd j ZV,<-OM];rfl
   rw[this];rfl
  simp only[go_sem,f2,f7,f31,f32,f33,Z4,r1,e5,r5];refine cd2.use ?_;rintro v' g6 ⟨o6,WA6,Zvr,k6,A6⟩;simp only[go_sem,f33];unfold XI;refine⟨⟨f2,f7,f31,f32,j+1,o6,Zvr,WA6,ZV,rfl,(K4.trans (YQ k5)).trans k6,by rw[XE];exact A6⟩,?_⟩;simp only[vi,Zt,↓reduceIte,f33];omega
 have Xw:¬(j:Int)<xs.length:=mD;obtain rfl:j=xs.length:=mD;rw[aF mD]at A4;have okW:=inv xs.length (aw _);rw[aF mD]at okW;obtain⟨w,hw⟩:=ZP (TG qJ);rw[<-hw]at A4 okW;have U4:=XP A4.wd.ZZ.2;have U4o:=U4.out;have Zvs:=Za A4.wd.ZZ.2;obtain⟨pf,cf,hpf,_⟩:=Rc A4.wd.Zm;obtain⟨pt,ct,tI,_⟩:=A4.wd.ZG.ZN;obtain⟨tv,htv⟩:=ZP (lH.ZG);rw[tI]at U4o htv;obtain⟨kb,hkb⟩:=ZP (g4.size);obtain⟨g5,zh⟩:=ZP (g4.push (.cells [.int .i64 0,.bool false,.bool false,.bool false,.bool false,.bool false,.slice W 0 0,.int .i64 (w.YA 0),.int .i64 (w.YA 1),.int .i64 (w.YA 2),.int .i64 (w.YA 3),.int .i64 (w.YA 4),.slice pt w.ZG.length ct].toArray 30):Hp);have e5:=zh.symm;have y5:g5[kb]? = Y (.cells [.int .i64 0,.bool false,.bool false,.bool false,.bool false,.bool false,.slice W 0 0,.int .i64 (w.YA 0),.int .i64 (w.YA 1),.int .i64 (w.YA 2),.int .i64 (w.YA 3),.int .i64 (w.YA 4),.slice pt w.ZG.length ct].toArray 30):=by rw[zh,hkb];exact Zd
 have k5:Kp UN o4 g4 o4 g5:=by rw[zh];exact Yv K4.Yt _
 obtain⟨g6,Mh⟩:=ZP (g5.setIfInBounds kb (.cells (bY w 0 (.slice W 0 0) (.slice pt w.ZG.length ct)).toArray 30):Hp);have w6:QF g5 ⟨kb,0,W⟩ (.int .i64 w.Zm.length)=Y g6:=by rw[Xk y5 0 _,Mh];rfl
 have l5:=Za y5;obtain⟨o6,ho6⟩:=ZP (QI o4 kb (.ZI 101));have k6:Kp jx o4 g4 o6 g6:=by rw[ho6,Mh];exact ((ZY k5).PI mD l5 (.inr rfl)).gq mD _
 have B6:Wf o6 (.ZI 101) g6 kb (.cells (bY w 0 (.slice W 0 0) (.slice pt w.ZG.length ct)).toArray 30):=⟨by rw[ho6];exact XR,by rw[Mh];exact ZQ y5⟩
 have A5:=A4.Zo k5;have U5:=XP A5.wd.ZZ.2;have U5f:=U5.Zm;rw[hpf]at U5f;have jk:=Za A5.wd.ZZ.2;have nof:∀t,jx t->t.of≠W:=by rintro t (rfl|rfl) e<;>cases e
 have non:∀t (i:Nat),i<5->jx t->t.of≠Y i:=by
  rintro t i hi (rfl|rfl) e
  .have:=Option.some.inj e;omega
  .have:=Option.some.inj e;omega
 have W6:=A4.wd.keep k6 nof;obtain⟨bn,Zvu,cn,hn,vg,hbn,Zhv⟩:=Te W6;have U6n:=(XP W6.ZZ.2).Zc;rw[hn]at U6n;have Zmj:=Za W6.ZZ.2;simp only[go_sem,f32,f33,Xw,f2,f7,U4o,Zvs,e5];rw[<-hkb];simp only[go_sem,f7,U5f,jk,w6,l5,U6n,Zmj];refine VS.Yq (fun F g=>F 2=.pointer (Y ⟨h.size,0,W⟩)/\F 10=.pointer (Y ⟨kb,0,W⟩)/\F 54=.slice (Y ⟨bn,Zvu,W⟩) 5 cn/\F 55=.int .i64 5/\∃(j:Nat) (o':Ow) (lv:ak) (vs:List ak),j<=5/\F 56=.int .i64 j/\Kp jx o4 g4 o' g/\Wf o' (.ZI 101) g kb (.cells (bY w j lv (.slice pt w.ZG.length ct)).toArray 30) /\
   Xm o' (.ZI 100) 38 1 g lv j vs/\AE (fun v l=>Im o' 5 g v l.length (ZT Un.C l)/\∀b,Ya v=Y b->g4.size<=b) vs (Ku w j))
  (fun F _=>5-(vi (F 56)).toNat) rfl ⟨f2,rfl,rfl,rfl,0,o6,.slice W 0 0,[],mD,rfl,k6,B6,Xm.nil _ _ _ _ _,.nil⟩ ?_
 clear f2 f7 f31 f32 f33 B6 k6 w6 l5 U6n Zmj W6 Zhv hbn ho6 Mh y5 e5;rintro F7 g7 ⟨f2,f10,f54,f55,j,o7,lv,vs,hj,f56,K7,B7,O7,L7⟩;have W7:=A4.wd.keep K7 nof;by_cases ZV:j<5
 .have Z4:(j:Int)<5:=mD;obtain⟨na,N4j⟩:=A4.nd j ZV;have N7:=N4j.keep K7 (fun t q=>non t j ZV q);obtain⟨bn',ZAD,cn',Nq,ZHM,hbn,Zhv⟩:=Te W7;rw[hn]at Nq;simp only[Value.slice.injEq,Option.some.injEq,Addr.mk.injEq,true_and,and_true]at Nq;obtain⟨⟨rfl,rfl⟩,rfl⟩:=Nq;have ri:=Zhv j ZV;unfold Zz at ri;have P7:=ZS N7.ZZ.2 N7.pt.store.len;have P7u:=P7.up;have Zg9:=Za N7.ZZ.2;have l7:=Za B7.2;obtain⟨g8,Ev⟩:=ZP (g7.setIfInBounds kb (.cells (bY w (j+1) lv (.slice pt w.ZG.length ct)).toArray 30):Hp);have w8:QF g7 ⟨kb,1+j,W⟩ (.bool (w.Zc j).up)=Y g8:=by
   rw[Xk B7.2,if_pos ⟨by rw[lT];omega,rfl⟩,Zht w j lv _ ZV,Ev]
  have k8:Kp jx o7 g7 o7 g8:=by rw[Ev];exact (Kp.refl K7.Yt jx).set B7.1 (.inr rfl) _
  have k8':Kp (fun t=>t=.ZI 101) o7 g7 o7 g8:=by rw[Ev];exact (Kp.refl K7.Yt (fun t=>t=.ZI 101)).set B7.1 rfl _
  have B8:Wf o7 (.ZI 101) g8 kb (.cells (bY w (j+1) lv (.slice pt w.ZG.length ct)).toArray 30):=⟨B7.1,by rw[Ev];exact ZQ B7.2⟩
  have O8:=O7.keep k8' tP;have L8:=Lz L7 (R':=fun v l=>Im o7 5 g8 v l.length (ZT Un.C l)/\∀b,Ya v=Y b->g4.size<=b) (fun v l q=>⟨q.1.keep k8,q.2⟩);have K8:=K7.trans k8;have N8:=N7.keep k8 (fun t q=>non t j ZV q);have P8l:=(ZS N8.ZZ.2 N8.pt.store.len).ZI;obtain⟨pl,cl,HD,_⟩:=Xm.ZN N8.pt.ZI;have HD:na.ZI=.slice pl (w.Zc j).ZI.length cl:=HD;rw[HD]at P8l;have Tl:=N8.pt.ZI.ts;rw[HD]at Tl;have Zdg:=Za N8.ZZ.2;have l8:=Za B8.2;obtain⟨plv,clv,rfl,_⟩:=O8.ZN;have r8:hc g8 ⟨kb,6,W⟩=Y (.slice plv j clv):=Zn B8.2;have cc:=jw T g8 (.slice pl (w.Zc j).ZI.length cl) (w.Zc j).ZI Tl (by have:=okW.ZI j ZV;omega);simp only[go_sem,f2,f10,f54,f55,f56,Z4,ri,P7u,Zg9,w8,l7,hbn];refine VS.z (g8.size) [8,10] (.p 0 (.q 1 (.p 2 (.p 3 (.p 4 (.q 5 (.s 6 (.s 7 (.w 8 (.p 9 (.w 10 .nil))))))))))) mixed sV ?_;simp only[go_sem,f2,f10,r8,P8l,Zdg,l8];refine cc.use ?_;rintro v9 g9 ⟨o9,b9⟩;have k9:Kp UN o7 g8 o7 g9:=ZU K8.Yt b9;have im9:Im o7 5 g9 v9 (w.Zc j).ZI.length (ZT Un.C (w.Zc j).ZI):=Im.Ws o9.Zr (fun b hb=>K8.Yt b hb);have lo9:∀b,Ya v9=Y b->g4.size<=b:=fun b hb=>a6 K8.size (o9.Zr.ZZ b hb);obtain⟨p9,c9,rfl⟩:=im9.ZN;obtain⟨g10,Zdz⟩:=ZP (g9.push (.cells [.slice p9 (w.Zc j).ZI.length c9].toArray 38):Hp);have e10:=Zdz.symm;have qc:Kp UN o7 g9 o7 g10:=by rw[Zdz];exact Yv k9.Yt _
  have K10:Kp jx o4 g4 o7 g10:=(K8.trans (ZY k9)).trans (ZY qc);have B10:=(B8.keep k9 (fun q=>q)).keep qc (fun q=>q);have O10:=(O8.keep k9 (fun q=>q)).keep qc (fun q=>q);have Zvw:=im9.keep qc;have x10:g10[g9.size]? = Y (.cells [.slice p9 (w.Zc j).ZI.length c9].toArray 38):=by rw[Zdz];exact Zd
  have src:Sl 1 g10 (.slice (Y ⟨g9.size,0,W⟩) 1 1) 1 [.slice p9 (w.Zc j).ZI.length c9]:=⟨_,1,rfl,rfl,fun _=>⟨g9.size,0,rfl,fun i hi=>by
   rw[Zn x10,Y7,co];exact a8 hi⟩⟩
  simp only[go_sem,b9,e10];refine⟨by rw[Zdz];exact b9.Y1 b9.size _,?_⟩;refine Qg (E:=38) (n:=1) (bytes:=24) (k:=1) ZjZ Tryz.underlying26 Zqs Zqu rfl Zqt O10 K10.Yt src rfl mD mD ?_;intro v11 o11 g11 O11 tD _;have tD:Kp (fun u=>u=.ZI 100) o7 g10 o11 g11:=tD;obtain⟨p11,c11,rfl,_⟩:=O11.ZN;have B11:=B10.keep tD tP;have l11:=Za B11.2;obtain⟨g12,A0⟩:=ZP (g11.setIfInBounds kb (.cells (bY w (j+1) (.slice p11 (j+1) c11) (.slice pt w.ZG.length ct)).toArray 30):Hp);have w12:QF g11 ⟨kb,6,W⟩ (.slice p11 (j+1) c11)=Y g12:=by
   rw[Xk B11.2,if_pos ⟨by rw[lT];omega,rfl⟩,Zdx,A0]
  have k12:Kp (fun t=>t=.ZI 101) o11 g11 o11 g12:=by rw[A0];exact (Kp.refl tD.Yt (fun t=>t=.ZI 101)).set B11.1 rfl _
  have B12:Wf o11 (.ZI 101) g12 kb (.cells (bY w (j+1) (.slice p11 (j+1) c11) (.slice pt w.ZG.length ct)).toArray 30):=⟨B11.1,by rw[A0];exact ZQ B11.2⟩
  simp only[go_sem,f10,w12,l11,f56];unfold XI;refine⟨⟨f2,f10,f54,f55,j+1,o11,.slice p11 (j+1) c11,vs++[.slice p9 (w.Zc j).ZI.length c9],ZV,rfl,(K10.trans (tD.mono fun t q=>.inl q)).trans (k12.mono fun t q=>.inr q),B12,O11.keep k12 tP,?_⟩,?_⟩
  .rw[bZ];refine bI (Lz L8 fun v l q=>⟨((((q.1.keep k9).keep qc).keep tD).keep k12),q.2⟩) ⟨(Zvw.keep tD).keep k12,lo9⟩
  .simp only[vi,Zt,↓reduceIte,f56];omega
 have Xw:¬(j:Int)<5:=mD;obtain rfl:j=5:=mD;have bx7:Z9 o7 g7 h.size (.cells tL.toArray 30):=Z9.keep (Z9.keep (o:=Nh) ⟨rfl,rz g2 b2⟩ K4) K7;have rk:rd g7 ⟨kb,0,W⟩ 13=Y (bY w 5 lv (.slice pt w.ZG.length ct)):=ZA B7.2 rfl;obtain⟨g8,Ev⟩:=ZP (g7.setIfInBounds h.size (.cells (bY w 5 lv (.slice pt w.ZG.length ct)).toArray 30):Hp);have w8:wr g7 ⟨h.size,0,W⟩ (bY w 5 lv (.slice pt w.ZG.length ct))=Y g8:=by
  obtain⟨plv,clv,rfl,_⟩:=O7.ZN;rw[Yh bx7.2 0 _,Ev];rfl
 have l7:=Za bx7.2;have r8:rd g8 ⟨h.size,0,W⟩ 13=Y (bY w 5 lv (.slice pt w.ZG.length ct)):=ZA (by rw[Ev];exact ZQ bx7.2) rfl;have K7a:Kp Td Nh h o7 g7:=(kh2.trans K4).trans (YQ K7);have vl:vs.length=5:=by have:=O7.length;omega
 have bound:h.size<g4.size:=ba (Za (rz g2 b2)) K4.size;rw[show bY w 5 lv (.slice pt w.ZG.length ct)=bW w lv (.slice pt w.ZG.length ct) from rfl]at rk w8 r8;unfold bW at rk w8 r8;simp only[go_sem,f55,f56,Xw,f2,f10,rk,w8,l7,r8];refine⟨by rw[Ev];exact (Fj K7a).Zu (aw _) _,?_⟩;unfold DF;rw[hzero,if_pos rfl,<-jy,<-hw];refine⟨_,lv,.slice pt w.ZG.length ct,vs,rfl,fun G hG=>?_⟩;have wt:=W7.ZG;rw[tI]at wt;have Xb:∀b,b<g7.size->b≠h.size->G[b]? = g8[b]? -> G[b]? = g7[b]?:=fun b _ h2 e=>by rw[e,Ev,bf,if_neg (fun e=>h2 e.symm)]
 have hs8:g8.size=g7.size:=by rw[Ev];simp
 have Zr:∀t,∀b,o7 b=Y t->b<g7.size->G[b]? = g7[b]?:=fun t b q1 q2=>Xb b q2 (fun e=>by rw[e,bx7.1]at q1;cases q1) (hG b (ce K7a q1) mD);refine⟨rfl,⟨by rw[qI,vl];exact (lU O7 (Zr _)).sl⟩,?_,⟨(lU wt (Zr _)).sl⟩,Lz (k:=Ku w 5) L7 fun v l q=>q.1.fits⟩;refine Lz (k:=Ku w 5) L7 fun v l q=>⟨Zmh q.1 fun b hb ZV=>?_⟩
 have:=q.2 b hb;exact Xb b ZV mD (hG b mD mD)
structure CmI(C:List Cm)(w v:Wd)(m:Nat):Prop where
 nd:∀i,i<5->Qq C i (v.Zc i)
 QD:∀i,i<5->∀l∈(v.Zc i).Zf,Qb C l
 TA:v.Zm=w.Zm
 sum:Mj (fun i=>(v.Zc i).Zf.length)<=Mj (fun i=>(w.Zc i).Zf.length)+m
 wait:Mj (fun i=>(v.Zc i).Zq.length)=Mj (fun i=>(w.Zc i).Zq.length)
 ZG:v.ZG=w.ZG
 YA:v.YA=w.YA
def jz{C:List Cm}{w:Wd}{l:Yn}(h1:∀i,i<5->Qq C i (w.Zc i))(h2:∀i,i<5->∀l∈(w.Zc i).Zf,Qb C l)(hl:Qb C l):CmI C w (JP w l) 1:=by
 have hto:l.to.toNat<5:=by have:=hl.to;omega
 unfold JP;split
 .refine⟨fun i hi=>?_,fun i hi x hx=>?_,rfl,?_,?_,rfl,rfl⟩
  .unfold Wd.set;by_cases e:i=l.to.toNat
   .simp only[if_pos e];rw[e];exact { h1 _ hto with }
   .simp only[if_neg e];exact h1 i hi
  .unfold Wd.set at hx;by_cases e:i=l.to.toNat
   .simp only[if_pos e]at hx;rcases aI.1 hx with hx|hx
    .exact h2 _ hto x hx
    .have:x=l:=by simpa using hx
     rw[this];exact hl
   .simp only[if_neg e]at hx;exact h2 i hi x hx
  .have:=Ly w l.to.toNat { w.Zc l.to.toNat with Zf:=(w.Zc l.to.toNat).Zf++[l] } (fun n=>n.Zf.length) hto;unfold Wd.set;simp only[al,a5]at this ⊢;omega
  .have:=Ly w l.to.toNat { w.Zc l.to.toNat with Zf:=(w.Zc l.to.toNat).Zf++[l] } (fun n=>n.Zq.length) hto;unfold Wd.set;simp only at this ⊢;omega
 .exact⟨h1,h2,rfl,mD,rfl,rfl,rfl⟩
def ZdA{C:List Cm}:∀(ls:List Yn) (w:Wd),(∀i,i<5->Qq C i (w.Zc i))->(∀i,i<5->∀l∈(w.Zc i).Zf,Qb C l)->(∀l∈ls,Qb C l)->CmI C w (ls.foldl JP w) (Q ls):=by
 intro ls
 induction ls with
 | nil=>intro w h1 h2 _;exact⟨h1,h2,rfl,sW,rfl,rfl,rfl⟩
 | cons l ls ih=>
  intro w h1 h2 h3;have a:=jz h1 h2 (h3 l sW);have b:=ih (JP w l) a.nd a.QD (fun x hx=>h3 x (by simp[hx]));refine⟨b.nd,b.QD,by rw[a9,b.TA,a.TA],?_,by rw[a9,b.wait,a.wait],by rw[a9,b.ZG,a.ZG],by rw[a9,b.YA,a.YA]⟩;have h4:=b.sum;have h5:=a.sum;simp only[a9,aX];omega
def WI.ZdB{C:List Cm}{k:Nat}{w u v:Wd}{m:Nat}(h:WI C k w)(c:CmI C u v m)(hu1:u.Zc=w.Zc)(hu2:∀l∈u.Zm,l∈w.Zm)(hu3:u.ZG=w.ZG)(hu4:u.YA=w.YA)(hm:u.Zm.length+m<=w.Zm.length+1):WI C (k+1) v:=by
 have hs:=c.sum;have hw:=c.wait;rw[hu1]at hs hw;have h1:=h.room;have h2:=h.wait;refine⟨c.nd,c.QD,fun l hl=>h.TA l (hu2 l (by rw[<-c.TA];exact hl)),?_,?_,fun i=>by rw[c.YA,hu4];have:=h.YA i;omega⟩
 .rw[c.TA];omega
 .rw[c.ZG,hu3,hw];omega
def Zhw{C:List Cm}{k:Nat}{w:Wd}(h:WI C k w)(at':Nat)(comes stays:Bool):WI C (k+1) (pick w at' comes stays):=by
 unfold pick;split
 .exact h.more
 .rename_i l hl;have qr:l∈w.Zm:=List.mem_of_getElem? hl;have hll:=h.TA l qr;have el:(w.Zm.eraseIdx (at'%w.Zm.length)).length+1<=w.Zm.length+1:=by
   have:=List.length_eraseIdx_le w.Zm (at'%w.Zm.length);omega
  have el2:(w.Zm.eraseIdx (at'%w.Zm.length)).length<=w.Zm.length:=mD
  cases comes with
  | true=>
   cases stays with
   | true=>exact h.ZdB (u:=w) (jz h.nd h.QD hll) rfl (fun l q=>q) rfl rfl mD
   | false=>exact h.ZdB (u:={ w with Zm:=w.Zm.eraseIdx (at'%w.Zm.length) }) (jz h.nd h.QD hll) rfl (fun l q=>bx q) rfl rfl el
  | false=>
   cases stays with
   | true=>exact h.more
   | false=>exact h.ZdB (u:={ w with Zm:=w.Zm.eraseIdx (at'%w.Zm.length) }) (m:=0) ⟨h.nd,h.QD,rfl,sW,rfl,rfl,rfl⟩ rfl (fun l q=>bx q) rfl rfl (by simp only;omega)
def Ti(rc:List Nat):Cm:=⟨Jd ((Jl rc).drop 22) 0,Jd ((Jl rc).drop 22) 1,Jd ((Jl rc).drop 22) 2,Jd ((Jl rc).drop 22) 3,Jd ((Jl rc).drop 22) 4⟩
def zy(n:Nd)(x:Cm):(Of n x).Zq.length<=n.Zq.length+1:=by
 unfold Of;split
 .omega
 .simp
def zC{C:List Cm}{k:Nat}{w:Wd}(h:WI C k w)(hi:i<5){rc:List Nat}(hc:Ti rc∈C):WI C (k+1) (Wq w i rc):=by
 unfold Wq;split
 .split
  .refine⟨h.nd,h.QD,h.TA,a6 h.room (bd _ (bl k)),a6 h.wait (bl k),fun j=>?_⟩;have h1:=h.YA j;have h2:=h.YA i;simp only;split<;>omega
  .rename_i q;have e:J2 rc (w.Zc i).ZI.length=Ti rc:=by
    unfold J2 Ti;rw[if_pos (by simpa using q)]
   rw[e];split
   .have hw:=h.wait;refine⟨h.nd,h.QD,h.TA,a6 h.room (bd _ (bl k)),by simp only[al,a5];omega,fun j=>by have:=h.YA j;simp only;omega⟩
   .rw[VF];have ha:=Ze7 (h.nd i hi) hc;have s1:(add (w.Zc i) (Ti rc)).Zf=(w.Zc i).Zf:=by unfold add;split<;>rfl
    have s2:(Of (add (w.Zc i) (Ti rc)) (Ti rc)).Zf=(w.Zc i).Zf:=by unfold Of;split<;>exact s1
    have s3:=zy (add (w.Zc i) (Ti rc)) (Ti rc);have s4:=(add_same (w.Zc i) (Ti rc)).1;refine h.out hi ?_ (fun l hl=>by cases hl) (by simp only[s2];exact h.QD i hi) (by simp only[s2];simp) (by simp only[List.length_nil];rw[s4]at s3;omega);unfold Of;simp only;split
    .exact ha
    .exact { ha with }
 .exact h.more
def lV{C:List Cm}(hC:(Q C)<=100000){k:Nat}{w:Wd}(h:WI C k w)(a:Ac)(hi:a.ZX<5)(hc:Ti a.data∈C):WI C (k+1) (act w a):=by
 have hn:=h.nd a.ZX hi;have hb:=h.QD a.ZX hi;unfold act;split
 .exact zC h hi hc
 split
 .obtain⟨l1,l2,l3⟩:=jt hn;rw[VF];exact h.out hi l1 (fun l hl=>by cases hl) (by simp only[l2];exact hb) (by simp only[l2];simp) (by simp only[l3];simp)
 split
 .obtain⟨s1,s2,s3,s4,s5⟩:=Zhm hi hC hn hb;exact h.out hi s1 s2 s3 mD mD
 split
 .exact Zhw h _ _ _
 split
 .have c:=ZdA w.Zm { w with Zm:=[] } h.nd h.QD h.TA;exact h.ZdB c rfl (fun l hl=>by cases hl) rfl rfl sW
 split
 .obtain⟨c1,c2⟩:=qH hn a.keep;rw[VF];rcases c2 with⟨c2,c3⟩|c2
  .exact h.out hi c1 (fun l hl=>by cases hl) (by simp only[c2];intro l hl;cases hl) (by simp only[c2];simp) (by simp only[c3];simp)
  .exact h.out hi c1 (fun l hl=>by cases hl) (by simp only[c2];exact hb) (by simp only[c2];simp) (by simp only[c2];simp)
 .obtain⟨c1,c2⟩:=DD hn;rw[VF];rcases c2 with⟨c2,c3⟩|c2
  .exact h.out hi c1 (fun l hl=>by cases hl) (by simp only[c2];intro l hl;cases hl) (by simp only[c2];simp) (by simp only[c3];simp)
  .exact h.out hi c1 (fun l hl=>by cases hl) (by simp only[c2];exact hb) (by simp only[c2];simp) (by simp only[c2];simp)
def Om(C:List Cm):WI C 0 Ud:=by
 refine⟨fun i hi=>Hl sW Ex.zero,(fun i hi l hl=>by cases hl),(fun l hl=>by cases hl),by simp[Ud,Mj,Yk],by simp[Ud,Mj,Yk],fun i=>by simp[Ud]⟩
def zD{C:List Cm}(hC:(Q C)<=100000):∀(l:List Ac) (k:Nat) (w:Wd),WI C k w->(∀a∈l,a.ZX<5/\Ti a.data∈C)->WI C (k+(Q l)) (l.foldl act w):=by
 intro l
 induction l with
 | nil=>intro k w h _;exact h
 | cons a l ih=>
  intro k w h hl;have:=ih (k+1) (act w a) (lV hC h a (hl a sW).1 (hl a sW).2) (fun x hx=>hl x (by simp[hx]));rw[aX,show k+((Q l)+1)=k+1+(Q l) by omega];exact this
def ZdC(xs:List (Raw × ak))(hz:∀x∈Y9 xs,x.err=0)(hl:(Q xs)<=100000)(j:Nat)(hj:j<=(Q xs)):WOk (TG (((Y9 xs).take j).map Raw.ac)):=by
 obtain⟨C,hC⟩:∃C,C=(Y9 xs).map fun x=>Ti x.data:=⟨_,rfl⟩
 have rl:(Y9 xs).length=(Q xs):=by unfold Y9;simp
 have tq:(Q C)<=100000:=by rw[hC,bg,rl];exact hl
 have:=zD tq (((Y9 xs).take j).map Raw.ac) 0 Ud (Om C) (fun a ha=>by
  obtain⟨x,hx,rfl⟩:=cg.1 ha;have hx:=bR hx;obtain⟨_,h2,_,_,_⟩:=Fi (hz x hx);refine⟨by unfold Raw.ac;simp only;omega,?_⟩;rw[hC];exact cg.2 ⟨x,hx,rfl⟩)
 refine this.ok tq ?_;rw[bg,a1];omega
def ZdD(h:Hp)(v:ak)(xs:List (Raw × ak))(hv:Ts QW 5 h v xs)(hx:∀x∈xs,S9 Nh h x.2 x.1.data)(tb:dS Nh h)(CQ:(Q xs)<=4611686018427387904):
  Zg a0 T 11 #[v] h fun v' h'=>Zk h.size h h'/\DF h.size h' v' (Y9 xs):=
 Zdy T h v xs hv hx tb CQ fun h1 h2 j hj=>ZdC xs h1 h2 j hj
def Ue(n m:Int):Int:=(if n<0 then 0-(n+1) else n)%m
def Q6(n:Int){m:Int}(h:0<m):0<=Ue n m/\Ue n m<m:=⟨Int.emod_nonneg _ mD,Int.emod_lt_of_pos _ h⟩
def i64(n:Int):Prop:=-9223372036854775808<=n/\n<9223372036854775808
def VN(h:Hp)(n m:Int)(hn:i64 n)(hm:1<=m)(xF:m<=1000000):
  Zg a0 T 12 #[M H n,M H m] h fun v' h'=>v'=M H (Ue n m)/\h'=h:=by
 unfold i64 at hn;refine Zg.XK [_,_] Tryz.func12 ?_;have hm0:¬m=0:=mD;by_cases q:n<0
 .have e:Ue n m=(0-(n+1)).tmod m:=by unfold Ue;rw[if_pos q,bk mD]
  rw[e];simp only[go_sem,q,hm0]
 .have e:Ue n m=n.tmod m:=by unfold Ue;rw[if_neg q,bk mD]
  rw[e];simp only[go_sem,q,hm0]
def Jz(h:Hp)(n m:Int)(hn:i64 n)(hm:1<=m)(xF:m<=1000000):
  Zg a0 T 6 #[M H n,M H m] h fun v' h'=>v'=M H (Ue n m)/\h'=h:=by
 refine Zg.XK [_,_] Tryz.func6 ?_;simp only[go_sem];refine (VN T h n m hn hm xF).pure ?_;simp only[go_sem]
def Zml(k c s n v:Int):List ak:=[M H k,M H c,M H s,M H n,M H v]
def cmW(k c s n v:Int):Cm:=⟨1+(Ue k 5).tdiv 2,Ue c 4,Ue s 6,Ue n 4,if 1+(Ue k 5).tdiv 2=1 then Ue v 1000 else 0⟩
def cj(h:Hp)(k c s n v:Int)(hk:i64 k)(hc:i64 c)(hs:i64 s)(hn:i64 n)(hv:i64 v):
  Zg a0 T 19 #[am (Zml k c s n v).toArray] h fun v' h'=>v'=am (cmW k c s n v).C.toArray/\Zk h.size h h':=by
 refine Zg.XK [_] Tryz.func19 ?_;unfold Zml;simp only[go_sem];refine VS.z (h.size+2) [16] (.p 0 (.q 1 (.p 2 (.p 3 (.p 4 (.p 5 (.q 6 (.p 7 (.p 8 (.q 9 (.p 10 (.p 11 (.q 12 (.p 13 (.p 14 (.s 15 (.w 16 .nil))))))))))))))))) mixed sV ?_;simp only[go_sem];refine Q2 (fun h=>VN T h k 5 hk mD mD) ?_;simp only[go_sem];refine Q2 (fun h=>VN T h c 4 hc mD mD) ?_;simp only[go_sem];refine Q2 (fun h=>VN T h s 6 hs mD mD) ?_;simp only[go_sem];refine Q2 (fun h=>VN T h n 4 hn mD mD) ?_;have r1:=Q6 k (m:=5) mD;generalize Ll:Ue k 5=K at *;have r2:0<=K.tdiv 2/\K.tdiv 2<=2:=by rw[Int.tdiv_eq_ediv_of_nonneg r1.1];omega
 unfold cmW;rw[Ll];generalize K.tdiv 2=J at *;by_cases q:1+J=1
 .simp only[go_sem,q];refine⟨Zk.push sW _,(VN T _ v 1000 hv mD mD).pure ?_⟩;simp only[go_sem,q];exact⟨rfl,(((Zk.refl _ _).add _).add _).add _⟩
 .simp only[go_sem,q];exact⟨Zk.push sW _,rfl,(((Zk.refl _ _).add _).add _).add _⟩
structure Gr where
 k:Int
 a:Int
 b:Int
 c:Int
 d:Int
def Gr.C(g:Gr):List ak:=[M H g.k,M H g.a,M H g.b,M H g.c,M H g.d]
def Gr.ok(g:Gr):Prop:=(i64 g.k/\i64 g.a)/\i64 g.b/\i64 g.c/\i64 g.d
def dW(g:Gr):Cm:=cmW g.b g.c g.d g.a g.d
def qL(g:Gr):Int:=if Ue g.d 17=16 then ((dW g).c+1).tmod 4 else (dW g).c
def qM(g:Gr):Int:=if Ue g.d 17=15 then 0 else 7
def Zhx(n c r u:Int)(x:Cm):List Nat:=if Ss n c r u x.k x.c x.s x.n x.v=0 then pN n c r u x.k x.c x.s x.n x.v else []
def Rg(g:Gr):List Nat:=Zhx (Ue g.a 1000) (qL g) (qM g) 60 (dW g)
def On(g:Gr):List Nat:=if Ue g.d 23=22/\30<(Rg g).length then (Rg g).take 30 else Rg g
def Be(h:Hp)(g:Gr)(hg:g.ok)(tk:Tk h):
  Zg a0 T 14 #[am g.C.toArray] h fun v' h'=>YB h.size 5 h' v' (On g)/\Zk h.size h h':=by
 obtain⟨⟨wk,wa⟩,wb,wc,wd⟩:=hg;refine Zg.XK [_] Tryz.func14 ?_;unfold Gr.C;have c1:∀h:Hp,Zg a0 T 19 #[am #[M H g.b,M H g.c,M H g.d,M H g.a,M H g.d]] h fun v' h'=>v'=am (dW g).C.toArray/\Zk h.size h h':=fun h=>cj T h g.b g.c g.d g.a g.d wb wc wd wa wd;obtain⟨h0,J9⟩:=ZP (h.push (U g.C.toArray 44):Hp);have y0:h0[h.size]? = Y (U g.C.toArray 44):=by rw[J9];exact Zd
 have b0:Zk h.size h h0:=by rw[J9];exact (Zk.refl _ _).add _
 have e0:=J9.symm;unfold Gr.C at e0 y0;have s0:h0.size=h.size+1:=by rw[J9];simp
 have l0:=Za y0;have u1:hc h0 ⟨h.size,1,W⟩=Y (M H g.a):=Zn y0;have u2:hc h0 ⟨h.size,2,W⟩=Y (M H g.b):=Zn y0;have u3:hc h0 ⟨h.size,3,W⟩=Y (M H g.c):=Zn y0;have u4:hc h0 ⟨h.size,4,W⟩=Y (M H g.d):=Zn y0;simp only[go_sem,e0,u1,u2,u3,u4,l0];refine (c1 h0).use ?_;rintro _ h1 ⟨rfl,b1⟩;have B1:Zk h.size h h1:=b0.trans (b1.mono b0.size);have s1:=b1.size;have y1:=b1.get l0 y0;obtain⟨X,hX⟩:=ZP (dW g);rw[<-hX];have hXc:0<=X.c/\X.c<4:=by rw[hX];exact Q6 g.c mD
 obtain⟨h2,Tv⟩:=ZP ((h1.push (U X.C.toArray 49)).push (U [M H X.c,M H 7,M H 60].toArray 82):Hp);have e2:=Tv.symm;unfold Un.C UL at e2 ⊢;have y4:hc h2 ⟨h.size,4,W⟩=Y (M H g.d):=by
  have:h2[h.size]? = Y (U [M H g.k,M H g.a,M H g.b,M H g.c,M H g.d].toArray 44):=by
   rw[Tv,ZF vI,ZF mD];exact y1
  exact Zn this
 simp only[go_sem,e2,y4];refine (Jz T h2 g.d 17 wd mD mD).pure ?_;have s2:h2.size=h1.size+2:=by rw[Tv];simp
 have t2:h2[h1.size+1]? = Y (U [M H X.c,M H 7,M H 60].toArray 82):=by rw[Tv,bS,if_pos sW]
 have x2:h2[h1.size]? = Y (U X.C.toArray 49):=by rw[Tv,ZF sW,Zd]
 have b2:Zk h1.size h1 h2:=by rw[Tv];exact ((Zk.refl _ _).add _).add _
 have yg2:=b2.get (Za y1) y1;have B2:Zk h.size h h2:=B1.trans (b2.mono B1.size);have Xb:h1.size+1≠h.size:=by have:=B1.size;omega
 have aK:h1.size+1≠h1.size:=mD;clear e2 Tv e0 J9 y4;have three:∀tc tr:Int,tc=qL g->tr=qM g->∃g3:Hp,g3=h2.setIfInBounds (h1.size+1) (U [M H tc,M H tr,M H 60].toArray 82)/\Zk h.size h g3/\g3.size=h2.size/\g3[h1.size+1]? = Y (U [M H (qL g),M H (qM g),M H 60].toArray 82)/\g3[h1.size]? = Y (U X.C.toArray 49)/\g3[h.size]? = Y (U [M H g.k,M H g.a,M H g.b,M H g.c,M H g.d].toArray 44):=fun tc tr e1 e2=>by
  refine⟨_,rfl,B2.Zu (by have:=B1.size;omega) _,sW,?_,?_,?_⟩
  .rw[<-e1,<-e2];exact ZQ t2
  .rw[Y2 aK];exact x2
  .rw[Y2 Xb];exact yg2
 have rc2:hc h2 ⟨h1.size+1,0,W⟩=Y (M H X.c):=Zn t2;have l2:=Za t2;have h3c:∃g3:Hp,((Ue g.d 17=15/\QF h2 ⟨h1.size+1,1,W⟩ (M H 0)=Y g3)\/(Ue g.d 17=16/\QF h2 ⟨h1.size+1,0,W⟩ (M H ((X.c+1).tmod 4))=Y g3)\/((¬Ue g.d 17=15/\¬Ue g.d 17=16)/\g3=h2))/\Zk h.size h g3/\g3.size=h2.size/\g3[h1.size+1]? = Y (U [M H (qL g),M H (qM g),M H 60].toArray 82)/\g3[h1.size]? = Y (U X.C.toArray 49)/\g3[h.size]? = Y (U [M H g.k,M H g.a,M H g.b,M H g.c,M H g.d].toArray 44):=by
  by_cases tJ:Ue g.d 17=15
  .obtain⟨g3,jd,z⟩:=three X.c 0 (by unfold qL;rw[if_neg mD,hX]) (by unfold qM;rw[if_pos tJ]);exact⟨g3,.inl ⟨tJ,by rw[Xk t2 1 _,jd];rfl⟩,z⟩
  by_cases q16:Ue g.d 17=16
  .obtain⟨g3,jd,z⟩:=three ((X.c+1).tmod 4) 7 (by unfold qL;rw[if_pos q16,hX]) (by unfold qM;rw[if_neg tJ]);exact⟨g3,.inr (.inl ⟨q16,by rw[Xk t2 0 _,jd];rfl⟩),z⟩
  .obtain⟨g3,jd,z⟩:=three X.c 7 (by unfold qL;rw[if_neg q16,hX]) (by unfold qM;rw[if_neg tJ]);exact⟨g3,.inr (.inr ⟨⟨tJ,q16⟩,by rw[jd];exact La t2⟩),z⟩
 obtain⟨g3,G6,B3,s3,t3,x3,y3⟩:=h3c;have ra:hc g3 ⟨h.size,1,W⟩=Y (M H g.a):=Zn y3;have rt:rd g3 ⟨h1.size+1,0,W⟩ 3=Y [M H (qL g),M H (qM g),M H 60]:=ZA t3 rfl;have rx:rd g3 ⟨h1.size,0,W⟩ 5=Y [M H X.k,M H X.c,M H X.s,M H X.n,M H X.v]:=ZA x3 rfl;have ly:=Za y3;have lt:=Za t3;have lx:=Za x3;have pk:=ZcL T g3 (Ue g.a 1000) (qL g) (qM g) 60 X.k X.c X.s X.n X.v (tk.QH B3);unfold Rx UL at pk;clear three b2 t2 x2 yg2 b1 y1 b0 y0;rcases G6 with⟨tJ,w3⟩|⟨q16,w3⟩|⟨⟨tJ,q16⟩,e23⟩
 case' inl=>simp only[go_sem,tJ,w3]
 case' inr.inl=>have tJ:¬(16:Int)=15:=KC
 case' inr.inl=>simp only[go_sem,q16,rc2,w3]
 case' inr.inr=>subst e23
 case' inr.inr=>simp only[go_sem,tJ,q16]
 all_goals
  refine VS.z (g3.size) [] (.p 0 (.q 1 (.p 2 (.q 3 (.q 4 (.s 5 (.p 6 (.p 7 (.p 8 (.p 9 (.p 10 .nil))))))))))) mixed sV ?_;simp only[go_sem,ra,rt,rx,ly,lt,lx];refine Q2 (fun h=>Jz T h g.a 1000 wa mD mD) ?_;simp only[go_sem,rt,rx,lt,lx];refine pk.use ?_;rintro _ h4 ⟨⟨w,rfl,o4⟩,b4⟩;have B4:=B3.trans (b4.mono B3.size);have eF:(if Ss (Ue g.a 1000) (qL g) (qM g) 60 X.k X.c X.s X.n X.v=0 then pN (Ue g.a 1000) (qL g) (qM g) 60 X.k X.c X.s X.n X.v else [])=Rg g:=by unfold Rg Zhx;rw[<-hX]
  rw[eF]at o4;have o4:=o4.mono B3.size;obtain⟨p4,c4,rfl,_⟩:=o4.open;have yd:hc h4 ⟨h.size,4,W⟩=Y (M H g.d):=Zn (b4.get ly y3);simp only[go_sem,yd,b4];refine (Jz T h4 g.d 23 wd mD mD).pure ?_;by_cases q22:Ue g.d 23=22
  .by_cases q30:30<(Rg g).length
   .have Zhy:((Rg g).length:Int)>30:=mD;have eD:On g=(Rg g).take 30:=by unfold On;rw[if_pos ⟨q22,q30⟩]
    simp only[go_sem,q22,Zhy];have hf:=o4.Zr.Na (m:=30) mD;rw[eD];refine⟨⟨?_,fun x hx=>o4.byte x (bR hx)⟩,B4⟩;rw[a1,Nat.min_eq_left mD,cz];exact hf
   .have Zhy:¬((Rg g).length:Int)>30:=mD;have eD:On g=Rg g:=by unfold On;rw[if_neg (fun h=>q30 h.2)]
    simp only[go_sem,q22,Zhy];rw[eD];exact⟨o4,B4⟩
  .have eD:On g=Rg g:=by unfold On;rw[if_neg (fun h=>q22 h.1)]
   simp only[go_sem,q22];rw[eD];exact⟨o4,B4⟩
def Up(g:Gr)(cr:Bool):Raw:=
 if Ue g.k 24<3 then ⟨1,Ue g.a 5,0,0,On g⟩ else if Ue g.k 24<5 then ⟨2,Ue g.a 5,0,0,[]⟩ else if Ue g.k 24<14 then ⟨3,Ue g.a 5,0,0,[]⟩
 else if Ue g.k 24=14 then ⟨4,0,Ue g.c 20,0,[]⟩ else if Ue g.k 24=15 then ⟨5,0,Ue g.c 20,0,[]⟩ else if Ue g.k 24=16 then ⟨6,0,Ue g.c 20,0,[]⟩
 else if Ue g.k 24=17/\cr=true then ⟨8,Ue g.a 5,0,Ue g.c 90,[]⟩ else if Ue g.k 24=18/\cr=true then ⟨9,Ue g.a 5,0,0,[]⟩ else ⟨7,0,0,0,[]⟩
def qN(h:Hp)(g:Gr)(cr:Bool)(hg:g.ok)(tk:Tk h):
  Zg a0 T 10 #[am g.C.toArray,aa cr] h fun v' h'=>(∃w,v'=am (QW (Up g cr,w)).toArray/\YB h.size 5 h' w (Up g cr).data)/\Zk h.size h h':=by
 have pkc:=fun h tk=>Be T h g hg tk;obtain⟨⟨wk,wa⟩,wb,wc,wd⟩:=hg;refine Zg.XK [_,_] Tryz.func10 ?_;unfold Gr.C at *;obtain⟨h0,J9⟩:=ZP ((h.push (U [M H g.k,M H g.a,M H g.b,M H g.c,M H g.d].toArray 44)).push (U (Rd 0 0 0 0 (O W 0 0)).toArray 36):Hp);have e0:=J9.symm;have y0:h0[h.size]? = Y (U [M H g.k,M H g.a,M H g.b,M H g.c,M H g.d].toArray 44):=by rw[J9,ZF sW,Zd]
 have z0:h0[h.size+1]? = Y (U (Rd 0 0 0 0 (O W 0 0)).toArray 36):=by rw[J9,bS,if_pos sW]
 have b0:Zk h.size h h0:=by rw[J9];exact ((Zk.refl _ _).add _).add _
 have u0:hc h0 ⟨h.size,0,W⟩=Y (M H g.k):=Zn y0;have u1:hc h0 ⟨h.size,1,W⟩=Y (M H g.a):=Zn y0;have u3:hc h0 ⟨h.size,3,W⟩=Y (M H g.c):=Zn y0;have ry:rd h0 ⟨h.size,0,W⟩ 5=Y [M H g.k,M H g.a,M H g.b,M H g.c,M H g.d]:=ZA y0 rfl;have ly:=Za y0;have lz:=Za z0;have rk:=Q6 g.k (m:=24) mD;unfold Rd at e0;simp only[go_sem,e0,u1,u0];refine (Jz T h0 g.a 5 wa mD mD).pure ?_;simp only[go_sem,u0];refine (Jz T h0 g.k 24 wk mD mD).pure ?_;obtain⟨A,hA⟩:=ZP (Ue g.a 5);rw[<-hA];have fin:∀(g4:Hp) (k n a b:Int) (p:Option Addr) (m c:Nat) (l:List Nat),g4[h.size+1]? = Y (U (Rd 0 0 0 0 (O W 0 0)).toArray 36)->Zk h.size h g4->YB (h.size+2) 5 g4 (O p m c) l->Up g cr=⟨k,n,a,b,l⟩ ->
   wr g4 ⟨h.size+1,0,W⟩ [M H k,M H n,M H a,M H b,O p m c]=Y (g4.setIfInBounds (h.size+1) (U (Rd k n a b (O p m c)).toArray 36)) /\
   rd (g4.setIfInBounds (h.size+1) (U (Rd k n a b (O p m c)).toArray 36)) ⟨h.size+1,0,W⟩ 5=Y [M H k,M H n,M H a,M H b,O p m c] /\
   ((∃w,Value.agg [M H k,M H n,M H a,M H b,O p m c].toArray=am (QW (Up g cr,w)).toArray/\YB h.size 5 (g4.setIfInBounds (h.size+1) (U (Rd k n a b (O p m c)).toArray 36)) w (Up g cr).data)/\Zk h.size h (g4.setIfInBounds (h.size+1) (U (Rd k n a b (O p m c)).toArray 36))):=fun g4 k n a b p m c l y4 b4 o4 e=>by
  refine⟨by rw[Yh y4 0 _];rfl,ZA (ZQ y4) rfl,⟨O p m c,by rw[e];rfl,?_⟩,b4.Zu mD _⟩;rw[e];exact (o4.Yi mD _).mono mD
 have nil:=fun B=>YB.nil B 5 h0;have c0:Ue g.k 24<3\/(¬Ue g.k 24<3/\Ue g.k 24<5)\/(¬Ue g.k 24<5/\Ue g.k 24<14)\/Ue g.k 24=14\/Ue g.k 24=15\/Ue g.k 24=16\/Ue g.k 24=17\/Ue g.k 24=18\/18<Ue g.k 24:=mD;obtain⟨K,hK⟩:=ZP (Ue g.k 24);rw[<-hK]at c0 rk ⊢;rcases c0 with c|⟨c,c'⟩|⟨c,c'⟩|c|c|c|c|c|c
 .simp only[go_sem,c,ry,ly];refine (pkc h0 (tk.QH b0)).use ?_;rintro w g4 ⟨o4,b4⟩;obtain⟨p,cp,rfl,_⟩:=o4.open;have s0:h0.size=h.size+2:=by rw[J9];simp
  obtain⟨f1,f2,f3⟩:=fin g4 1 A 0 0 p _ cp (On g) (b4.get lz z0) (b0.trans (b4.mono b0.size)) (o4.mono mD) (by unfold Up;rw[<-hK,if_pos c,<-hA]);have l4:=Za (b4.get lz z0);simp only[go_sem,f1,f2,l4];exact f3
 .obtain⟨f1,f2,f3⟩:=fin h0 2 A 0 0 W 0 0 [] z0 b0 (nil _) (by unfold Up;rw[<-hK];rw[if_neg c,if_pos c',<-hA]);simp only[go_sem,c,c',f1,f2,lz];exact f3
 .obtain⟨f1,f2,f3⟩:=fin h0 3 A 0 0 W 0 0 [] z0 b0 (nil _) (by unfold Up;rw[<-hK];rw[if_neg mD,if_neg c,if_pos c',<-hA]);have c2:¬K<3:=mD;simp only[go_sem,c,c',c2,f1,f2,lz];exact f3
 .obtain⟨f1,f2,f3⟩:=fin h0 4 0 (Ue g.c 20) 0 W 0 0 [] z0 b0 (nil _) (by unfold Up;rw[<-hK];rw[c];rfl);have t14:¬(14:Int)<3:=KC;simp only[go_sem,c,u3];refine (Jz T h0 g.c 20 wc mD mD).pure ?_;simp only[go_sem,f1,f2,lz];exact f3
 .obtain⟨f1,f2,f3⟩:=fin h0 5 0 (Ue g.c 20) 0 W 0 0 [] z0 b0 (nil _) (by unfold Up;rw[<-hK];rw[c];rfl);have t15:¬(15:Int)<3:=KC;simp only[go_sem,c,u3];refine (Jz T h0 g.c 20 wc mD mD).pure ?_;simp only[go_sem,f1,f2,lz];exact f3
 .obtain⟨f1,f2,f3⟩:=fin h0 6 0 (Ue g.c 20) 0 W 0 0 [] z0 b0 (nil _) (by unfold Up;rw[<-hK];rw[c];rfl);have t16:¬(16:Int)<3:=KC;simp only[go_sem,c,u3];refine (Jz T h0 g.c 20 wc mD mD).pure ?_;simp only[go_sem,f1,f2,lz];exact f3
 .cases cr with
  | true=>
   obtain⟨f1,f2,f3⟩:=fin h0 8 A 0 (Ue g.c 90) W 0 0 [] z0 b0 (nil _) (by unfold Up;rw[<-hK,c,<-hA];rfl);simp only[go_sem,c,u3];refine (Jz T h0 g.c 90 wc mD mD).pure ?_;simp only[go_sem,f1,f2,lz];exact f3
  | false=>
   obtain⟨f1,f2,f3⟩:=fin h0 7 0 0 0 W 0 0 [] z0 b0 (nil _) (by unfold Up;rw[<-hK,c];rfl);simp only[go_sem,c,f1,f2,lz];exact f3
 .cases cr with
  | true=>
   obtain⟨f1,f2,f3⟩:=fin h0 9 A 0 0 W 0 0 [] z0 b0 (nil _) (by unfold Up;rw[<-hK,c,<-hA];rfl);simp only[go_sem,c,f1,f2,lz];exact f3
  | false=>
   obtain⟨f1,f2,f3⟩:=fin h0 7 0 0 0 W 0 0 [] z0 b0 (nil _) (by unfold Up;rw[<-hK,c];rfl);simp only[go_sem,c,f1,f2,lz];exact f3
 .obtain⟨f1,f2,f3⟩:=fin h0 7 0 0 0 W 0 0 [] z0 b0 (nil _) (by unfold Up;rw[<-hK,if_neg mD,if_neg mD,if_neg mD,if_neg mD,if_neg mD,if_neg mD,if_neg mD,if_neg mD]);have c3:¬K<3:=mD;have c5:¬K<5:=mD;have c14:¬K<14:=mD;have d14:¬K=14:=mD;have d15:¬K=15:=mD;have d16:¬K=16:=mD;have d17:¬K=17:=mD;have d18:¬K=18:=mD;simp only[go_sem,c3,c5,c14,d14,d15,d16,d17,d18,f1,f2,lz];exact f3
def Kv:Raw:=⟨7,0,0,0,[]⟩
def VG(n:Nat)(a:Raw):Raw:=if a.k=1/\6<n+1 then Kv else a
def UU(cr:Bool)(st:Nat × List Raw)(g:Gr):Nat × List Raw:=(if (Up g cr).k=1 then st.1+1 else st.1,st.2++[VG st.1 (Up g cr)])
def Oo(gs:List Gr)(cr:Bool)(j:Nat):Nat × List Raw:=(gs.take j).foldl (UU cr) (0,[])
def scr(gs:List Gr)(Jt:Nat)(cr:Bool):List Raw:=(Oo gs cr Jt).2
def DH(gs:List Gr)(cr:Bool)(j:Nat)(hj:j<(Q gs)):Oo gs cr (j+1)=UU cr (Oo gs cr j) gs[j]:=by
 unfold Oo;rw[Y0 gs j hj,bp];rfl
def LA(gs:List Gr)(cr:Bool):∀j,j<=(Q gs)->(Oo gs cr j).2.length=j/\(Oo gs cr j).1<=j:=by
 intro j
 induction j with
 | zero=>intro _;exact⟨rfl,aw _⟩
 | succ j ih=>
  intro h;obtain⟨h1,h2⟩:=ih mD;rw[DH gs cr j mD];unfold UU;simp only[al,a5];refine⟨mD,?_⟩;split<;>omega
def cy(gs:List Gr)(cr:Bool)(j:Nat)(h:(Q gs)<=j):Oo gs cr j=Oo gs cr (Q gs):=by
 unfold Oo;rw[aF h,aF (aw _)]
def qO{B:Nat}{h:Hp}{v:ak}{l:List Nat}{o:Ow}(s:YB B 5 h v l)(hf:∀b,B<=b->o b=W):S9 o h v l:=⟨Im.Ws s.Zr hf,s.byte⟩
set_option maxHeartbeats 4000000 in
def jA(h:Hp)(v:ak)(gs:List Gr)(Jt:Nat)(cr:Bool)(hv:Ts Gr.C 5 h v gs)(hg:∀g∈gs,g.ok)(hm:Jt<=1000000)(tk:Tk h):
  Zg a0 T 4 #[v,M H Jt,aa cr] h fun v' h'=>∃(o:Ow) (ys:List (Raw × ak)),Y9 ys=scr gs Jt cr/\Kp (fun t=>t=.ZI 100) Nh h o h'/\Xm o (.ZI 100) 36 5 h' v' (Q ys) (ZT QW ys)/\(∀y∈ys,S9 o h' y.2 y.1.data)/\(∀y∈ys,∀b,Ya y.2=Y b->h.size<=b)/\∀b,Ya v'=Y b->h.size<=b/\b<h'.size:=by
 obtain⟨p,c,rfl,XH⟩:=hv.open (n:=5) (enc:=Gr.C) (fun _=>rfl) KC;refine Zg.XK [_,_,_] Tryz.func4 ?_;simp only[go_sem];refine VS.Yq (fun F g=>(F 0=O p (Q gs) c/\F 1=M H Jt/\F 2=aa cr)/\∃(j:Nat) (o:Ow) (ys:List (Raw × ak)),j<=(Q gs)/\j<=Jt/\F 9=M H j/\F 8=M H ((Oo gs cr j).1:Nat)/\Kp (fun t=>t=.ZI 100) Nh h o g/\Y9 ys=(Oo gs cr j).2/\Xm o (.ZI 100) 36 5 g (F 7) (Q ys) (ZT QW ys)/\(∀y∈ys,S9 o g y.2 y.1.data)/\∀y∈ys,∀b,Ya y.2=Y b->h.size<=b)
  (fun F _=>(Q gs)-(vi (F 9)).toNat) rfl ⟨⟨rfl,rfl,rfl⟩,0,Nh,[],bo _,bo _,rfl,rfl,Kp.refl (RS h) _,rfl,Xm.nil _ _ _ _ _,(fun y hy=>by cases hy),fun y hy=>by cases hy⟩ ?_
 rintro F2 g2 ⟨⟨f0,f1,f2⟩,j,o2,ys,hj,hjm,f9,f8,K2,hr,O2,I2,N2⟩;have yl:(Q ys)=j:=by
  have:=congrArg Q hr;unfold Y9 at this;rw[bg,(LA gs cr j hj).1]at this;exact this
 obtain⟨p3,c3,f3,hc3⟩:=O2.ZN;by_cases ZV:j<(Q gs)/\j<Jt
 .obtain⟨ZV,ZvD⟩:=ZV;have Z4:(j:Int)<(Q gs):=mD;have Zmn:(j:Int)<Jt:=mD;obtain⟨bb,oo,rfl,Tu,Lv⟩:=XH (by intro e;rw[e]at ZV;simp at ZV);obtain⟨g,hg0⟩:=ZP (gs[j]);have hgm:g∈gs:=by rw[hg0];exact bc ZV
  have r1:rd g2 ⟨bb,oo+j*5,W⟩ 5=Y g.C:=by rw[Q9 (Fj K2) Tu,hg0];exact (Lv j ZV).rd (by simp[Gr.C]) rfl
  have ca:=qN T g2 g cr (hg g hgm) (tk.QH (Fj K2));unfold Gr.C at ca r1;simp only[go_sem,f0,f1,f2,f9,Z4,Zmn,r1];refine ca.use ?_;rintro vv g3 ⟨⟨w,hvv,o3⟩,b3⟩;obtain⟨a,ha⟩:=ZP (Up g cr);rw[<-ha]at o3 hvv;obtain⟨p4,c4,rfl,_⟩:=o3.open;have hvv:vv=am #[M H a.k,M H a.n,M H a.a,M H a.b,O p4 (Q a.data) c4]:=by rw[hvv];rfl
  subst hvv;obtain⟨n,hn⟩:=ZP ((Oo gs cr j).1);rw[<-hn]at f8;have hnj:n<=j:=by rw[hn];exact (LA gs cr j hj).2
  obtain⟨g4,Lu⟩:=ZP (g3.push (U (Rd a.k a.n a.a a.b (O p4 (Q a.data) c4)).toArray 36):Hp);have e4:=Lu.symm;have y4:g4[g3.size]? = Y (U (Rd a.k a.n a.a a.b (O p4 (Q a.data) c4)).toArray 36):=by rw[Lu];exact Zd
  have K3:Kp UN o2 g2 o2 g3:=ZU K2.Yt b3;have k4:Kp UN o2 g3 o2 g4:=by rw[Lu];exact Yv K3.Yt _
  have K4:=K3.trans k4;have i3:S9 o2 g3 (O p4 (Q a.data) c4) a.data:=qO o3 (fun b hb=>K2.Yt b hb);have i4:=i3.keep k4;have rk:hc g4 ⟨g3.size,0,W⟩=Y (M H a.k):=Zn y4;have l4:=Za y4;have hs3:=b3.size;have h5c:∃(g5:Hp) (q:Option Addr) (cq:Nat),((¬a.k=1/\g5=g4)\/((a.k=1/\¬(n:Int)+1>6)/\g5=g4)\/((a.k=1/\(n:Int)+1>6)/\wr g4 ⟨g3.size,0,W⟩ [M H 7,M H 0,M H 0,M H 0,O W 0 0]=Y g5)) /\
    g5[g3.size]? = Y (U (Rd (VG n a).k (VG n a).n (VG n a).a (VG n a).b (O q (VG n a).data.length cq)).toArray 36)/\Kp UN o2 g2 o2 g5/\S9 o2 g5 (O q (VG n a).data.length cq) (VG n a).data/\g3.size<g5.size/\∀b,Ya (O q (VG n a).data.length cq)=Y b->h.size<=b:=by
   have Zmo:∀b,Ya (O p4 (Q a.data) c4)=Y b->h.size<=b:=fun b hb=>a6 K2.size (o3.Zr.ZZ b hb);by_cases q1:a.k=1
   .by_cases q6:6<n+1
    .have eX:VG n a=Kv:=by unfold VG;rw[if_pos ⟨q1,q6⟩]
     rw[eX];refine⟨_,W,0,.inr (.inr ⟨⟨q1,mD⟩,by rw[Yh y4 0 _];rfl⟩),ZQ y4,K4.gq mD _,⟨Im.nil _ 1 _ W,fun x hx=>by cases hx⟩,by simpa using l4,fun b hb=>by simp[Ya]at hb⟩
    .have eX:VG n a=a:=by unfold VG;rw[if_neg (fun h=>q6 h.2)]
     rw[eX];exact⟨g4,p4,c4,.inr (.inl ⟨⟨q1,mD⟩,rfl⟩),y4,K4,i4,l4,Zmo⟩
   .have eX:VG n a=a:=by unfold VG;rw[if_neg (fun h=>q1 h.1)]
    rw[eX];exact⟨g4,p4,c4,.inl ⟨q1,rfl⟩,y4,K4,i4,l4,Zmo⟩
  obtain⟨g5,q,cq,G6,y5,K5,i5,l5,n5⟩:=h5c;obtain⟨X,hX⟩:=ZP (VG n a);rw[<-hX]at y5 i5 n5;have eN:Oo gs cr (j+1)=(if a.k=1 then n+1 else n,(Oo gs cr j).2++[X]):=by rw[DH gs cr j ZV,<-hg0];unfold UU;rw[<-ha,<-hn,hX]
  have r5:rd g5 ⟨g3.size,0,W⟩ 5=Y (Rd X.k X.n X.a X.b (O q (Q X.data) cq)):=ZA y5 rfl;obtain⟨g6,Mh⟩:=ZP (g5.push (U (Rd X.k X.n X.a X.b (O q (Q X.data) cq)).toArray 36):Hp);have e6:=Mh.symm;have k6:Kp UN o2 g5 o2 g6:=by rw[Mh];exact Yv K5.Yt _
  have x6:g6[g5.size]? = Y (U (Rd X.k X.n X.a X.b (O q (Q X.data) cq)).toArray 36):=by rw[Mh];exact Zd
  have src:Sl 5 g6 (O (Y ⟨g5.size,0,W⟩) 1 1) 1 (Rd X.k X.n X.a X.b (O q (Q X.data) cq)):=⟨_,1,rfl,rfl,fun _=>⟨g5.size,0,rfl,fun i hi=>by
   rw[Zn x6,Y7,co];exact a8 hi⟩⟩
  have O6:=(O2.keep K5 (fun q=>q)).keep k6 (fun q=>q);rw[f3]at O6;have stp:∀v7 o7 (g7:Hp),Xm o7 (.ZI 100) 36 5 g7 v7 ((Q ys)+1) (ZT QW ys++Rd X.k X.n X.a X.b (O q (Q X.data) cq))->Kp (fun u=>u=.ZI 100) o2 g6 o7 g7 ->
    Kp (fun t=>t=.ZI 100) Nh h o7 g7/\Y9 (ys++[(X,O q (Q X.data) cq)])=(Oo gs cr (j+1)).2/\Xm o7 (.ZI 100) 36 5 g7 v7 (ys++[(X,Value.slice q (Q X.data) cq)]).length (ZT QW (ys++[(X,O q (Q X.data) cq)]))/\(∀y∈ys++[(X,Value.slice q (Q X.data) cq)],S9 o7 g7 y.2 y.1.data)/\∀y∈ys++[(X,Value.slice q (Q X.data) cq)],∀b,Ya y.2=Y b->h.size<=b:=fun v7 o7 g7 O7 k7=>by
   refine⟨((K2.trans (ZY K5)).trans (ZY k6)).trans k7,?_,?_,fun y hy=>?_,fun y hy=>?_⟩
   .rw[eN,<-hr];unfold Y9;simp only[bG,List.map_cons,List.map_nil]
   .have e:ZT QW (ys++[(X,O q (Q X.data) cq)])=ZT QW ys++Rd X.k X.n X.a X.b (O q (Q X.data) cq):=by rw[YV,WH];rfl
    rw[e,al];exact O7
   .rcases aI.1 hy with hy|hy
    .exact (((I2 y hy).keep K5).keep k6).keep k7
    .rw[b8.1 hy];exact (i5.keep k6).keep k7
   .rcases aI.1 hy with hy|hy
    .exact N2 y hy
    .rw[b8.1 hy];exact n5
  unfold Rd at e4 r5 e6;rcases G6 with⟨q1,e54⟩|⟨⟨q1,q6⟩,e54⟩|⟨⟨q1,q6⟩,w5⟩
  case' inl=>subst e54
  case' inl=>simp only[go_sem,e4,rk,q1,r5,l5,e6,f3]
  case' inr.inl=>subst e54
  case' inr.inl=>have q1t:=eq_true q1
  case' inr.inl=>simp only[go_sem,e4,rk,q1t,f8,q6,r5,l5,e6,f3]
  case' inr.inr=>have q1t:=eq_true q1
  case' inr.inr=>simp only[go_sem,e4,rk,q1t,f8,q6,w5,l4,r5,l5,e6,f3]
  all_goals
   refine Qg (E:=36) (n:=5) (bytes:=56) (k:=1) vO Tryz.underlying23 ZfS ZfU rfl ZfT O6 k6.Yt src rfl mD mD ?_;intro v7 o7 g7 O7 k7 _;have k7:Kp (fun u=>u=.ZI 100) o2 g6 o7 g7:=k7;obtain⟨z1,z2,z3,z4,z5⟩:=stp v7 o7 g7 O7 k7;simp only[go_sem,f9];unfold XI;refine⟨⟨⟨f0,f1,f2⟩,j+1,o7,ys++[(X,Value.slice q (Q X.data) cq)],ZV,ZvD,rfl,?_,z1,z2,?_,z4,z5⟩,?_⟩
   .rw[eN]
    first
    | (rw[if_pos q1];rfl)
    | (rw[if_neg q1];exact f8)
   .exact z3
   .simp only[vi,Zt,↓reduceIte,f9];omega
 have e9:scr gs Jt cr=(Oo gs cr j).2:=by
  unfold scr;by_cases q:j<(Q gs)
  .rw[show Jt=j by omega]
  .rw[show j=(Q gs) by omega,cy gs cr Jt mD]
 have fin:∀b,Ya (F2 7)=Y b->h.size<=b/\b<g2.size:=fun b hb=>by
  have ho:=zv O2 hb;refine⟨ce K2 ho,?_⟩;refine an fun q=>?_;rw[K2.Yt b mD]at ho;cases ho
 by_cases L9:j<(Q gs)
 .have Z4:(j:Int)<(Q gs):=mD;have Xw:¬(j:Int)<Jt:=mD;simp only[go_sem,f0,f1,f9,Z4,Xw];exact⟨o2,ys,by rw[hr,e9],K2,O2,I2,N2,fin⟩
 .have Z4:¬(j:Int)<(Q gs):=mD;simp only[go_sem,f0,f1,f9,Z4];exact⟨o2,ys,by rw[hr,e9],K2,O2,I2,N2,fin⟩
def JC(l:List Raw):Wd:=TG (l.map Raw.ac)
def zE{h:Hp}{v:ak}{l:List (Raw × ak)}(s:Ts QW 5 h v l):∃p c,v=O p (Q l) c:=by
 obtain⟨p,c,h,_⟩:=DG s;exact⟨p,c,h⟩
def lW{α β:Type}{R:α->β->Prop}{l:List α}{k:List β}(h:AE R l k):(Q l)=(Q k):=by
 induction h with
 | nil=>rfl
 | cons _ _ ih=>rw[aX,aX,ih]
set_option maxHeartbeats 4000000 in
def jB(h:Hp)(v:ak)(xs:List (Raw × ak))(hv:Ts QW 5 h v xs)(hx:∀x∈xs,S9 Nh h x.2 x.1.data)(tb:dS Nh h)(CQ:(Q xs)<=4611686018427387904)(hz:Sy (Y9 xs)=0):
  Zg a0 T 5 #[v] h fun v' h'=>(∃lv tv vs,v'=.tuple #[am (bW (JC (Y9 xs)) lv tv).toArray,aa true]/\Vi (h.size+1) h' (bW (JC (Y9 xs)) lv tv) (JC (Y9 xs)) lv tv vs)/\Zk h.size h h':=by
 obtain⟨p,c,tF⟩:=zE hv;subst tF;refine Zg.XK [_] Tryz.func5 ?_;obtain⟨h0,J9⟩:=ZP (h.push (U tL.toArray 30):Hp);have e0:=J9.symm;have b0:Zk h.size h h0:=by rw[J9];exact (Zk.refl _ _).add _
 have z0:h0[h.size]? = Y (U tL.toArray 30):=by rw[J9];exact Zd
 have k0:Kp UN Nh h Nh h0:=ZU (RS h) b0;unfold tL at e0;simp only[go_sem,e0];refine (ZdD T h0 _ xs (hv.YJ b0) (fun x hxm=>(hx x hxm).keep k0) (tb.keep k0) CQ).use ?_;rintro v1 h1 ⟨b1,r1⟩;have B1:=b0.trans (b1.mono b0.size);unfold DF at r1;rw[if_pos hz]at r1;obtain⟨R,lv,tv,vs,rfl,rf⟩:=r1;have ra:=rf.at;obtain⟨pl,cl,hl,_⟩:=ra.Zmg.open (n:=1) (enc:=fun v=>[v]) (fun _=>rfl) (show (1:Nat)≠0 by decide);have vl:(Q vs)=5:=lW ra.each;subst hl;rw[vl]at *;have rc:=ra.cells;subst rc;obtain⟨R,hR⟩:=ZP (bW (JC (Y9 xs)) (O pl 5 cl) tv);have hR':bW (TG (List.map Raw.ac (Y9 xs))) (O pl 5 cl) tv=R:=by rw[hR];rfl
 rw[hR'];rw[hR']at ra rf;obtain⟨pt,ct,ht,_⟩:=ra.ZG.open (n:=5) (enc:=GQ) (fun _=>rfl) (show (5:Nat)≠0 by decide);have hRl:(Q R)=13:=by rw[hR];rfl
 have tH:R.all YN=true:=by rw[hR,ht];rfl
 have hRp:Xd [Value.int H 0,aa false,aa false,aa false,aa false,aa false,O W 0 0,M H 0,M H 0,M H 0,M H 0,M H 0,O W 0 0] 0 R=R:=Yb (by rw[hRl];rfl);have ZdF:(Q R)<=13:=mD;have hR6:nth R 6=Y (O pl 5 cl):=by rw[hR];rfl
 obtain⟨h2,Tv⟩:=ZP (h1.push (U R.toArray 30):Hp);have e2:=Tv.symm;have b2:Zk h1.size h1 h2:=by rw[Tv];exact (Zk.refl _ _).add _
 have y2:h2[h1.size]? = Y (U R.toArray 30):=by rw[Tv];exact Zd
 have z2:=b2.get (Za (b1.get (Za z0) z0)) (b1.get (Za z0) z0);have lz:=Za z2;have ly:=Za y2;have r2:rd h2 ⟨h1.size,0,W⟩ 13=Y R:=ZA y2 hRl;have r6:hc h2 ⟨h1.size,6,W⟩=Y (O pl 5 cl):=by rw[Zn y2];exact hR6
 have w2:wr h2 ⟨h.size,0,W⟩ R=Y (h2.setIfInBounds h.size (U R.toArray 30)):=by
  rw[Yh z2 0 _,if_pos ⟨by rw[hRl];decide,tH⟩];have:Xd tL 0 R=R:=Yb (by rw[hRl];rfl);rw[this]
 have z3:=ZQ (o:=U R.toArray 30) z2;have r3:=ZA z3 hRl;simp only[go_sem,hRl,tH,hRp,ZdF,e2];refine VS.z (h.size) [0,5,9] (.p 1 (.p 2 (.p 3 (.p 4 (.or 0 (.or 5 (.p 6 (.p 7 (.p 8 (.w 9 (.p 10 .nil))))) (.s 9 (.w 5 (.p 6 (.p 7 (.p 8 (.p 10 .nil))))))) (.s 5 (.p 6 (.p 7 (.p 8 (.w 0 (.w 9 (.p 10 .nil)))))))))))) mixed sV ?_;have s0:h0.size=h.size+1:=by rw[J9];simp
 have Xb:¬h1.size=h.size:=by have:=b1.size;omega
 have e5:decide (((5:Nat):Int)=5)=true:=rfl;have et:R.take 13=R:=aF mD;have bs:Zk h.size h (h2.setIfInBounds h.size (U R.toArray 30)):=(B1.trans (b2.mono B1.size)).Zu (aw _) _;have rf2:Vi (h.size+1) (h2.setIfInBounds h.size (U R.toArray 30)) R (TG (List.map Raw.ac (Y9 xs))) (O pl 5 cl) tv vs:=by
  rw[s0]at rf;exact (rf.YJ b2).set mD _
 have key:(∃lv tv vs,Value.tuple #[am R.toArray,aa true]=.tuple #[am (bW (JC (Y9 xs)) lv tv).toArray,aa true]/\Vi (h.size+1) (h2.setIfInBounds h.size (U R.toArray 30)) (bW (JC (Y9 xs)) lv tv) (JC (Y9 xs)) lv tv vs)/\Zk h.size h (h2.setIfInBounds h.size (U R.toArray 30)):=
  ⟨⟨_,tv,vs,by rw[<-hR],by rw[<-hR];exact rf2⟩,bs⟩
 simp only[go_sem,r2,r6,w2,hRl,tH,ZdF,ly,lz,Xb,hR6,e5,et];exact⟨⟨key,key⟩,key⟩
end Go.Proofs.YtnhfdnlcpdbjlaaGreatDoor
