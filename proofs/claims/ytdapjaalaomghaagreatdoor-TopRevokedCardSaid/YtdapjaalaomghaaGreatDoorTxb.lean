import Derived.Test.YtdapjaalaomghaaGreatDoorMdh
import Derived.Test.YtdapjaalaomghaaGreatDoorLchks
import Derived.Test.YtdapjaalaomghaaGreatDoorPak
open Go.Value renaming slice→U,int→W,bool→al,pointer→aw,agg→a0
open Go.IntKind renaming i64→O
open Go.Obj renaming cells→ab
open Go.Proofs.Tryz renaming prog→a8
open List renaming length→H,length_append→aa,take_of_length_le→am,length_cons→a1,mem_append→a2,length_take→a5,getD_eq_getElem?_getD→a6,take_append_of_le_length→a9,mem_filter→bc,length_erase_of_mem→bd,foldl_cons→be,length_pos_of_mem→bg,mem_range→bh,length_singleton→bl,drop_append_of_le_length→bp,filter_sublist→bt,getElem?_append_right→bx,mem_cons→bP,getElem?_eq_getElem→bQ,mem_of_mem_eraseIdx→bR,mem_flatMap→bS,getElem_mem→b6,length_map→b8,mem_erase_of_ne→ca,drop_left→cg,pairwise_cons→ch,nodup_append→cj,mem_map→co,foldl_append→cp,length_drop→cq,nodup_cons→cr,range_succ→cx,map_append→cy,range→cA,drop_drop→cB
open Nat renaming le_refl→ao,lt_of_lt_of_le→bf,le_trans→bk,mul_le_mul_right→bo,le_succ→bA,zero_le→bG
open Int renaming tmod_eq_emod_of_nonneg→bw
open Option renaming map_eq_some_iff→ba,map_some→cz,some→X,none→Y
open Array renaming getElem?_setIfInBounds→br,size_push→cu
open Classical renaming byContradiction→aq
open Go renaming Value→ae,World→bC
namespace Go.Proofs.YtdapjaalaomghaaGreatDoor
open Go Go.V
set_option linter.all false
variable{a:UH}{b:Yn}{i k:Nat}{n:Nd}
def TJ(l:List Vt):Prop:=(∀x∈l,Yo x)/\l.Pairwise (fun a b=>a.Zt<b.Zt)
structure Da(a:UH):Prop where
 bal:ZD a.p\/(a.p.r=0/\a.p.n=0)
 YZ:TJ a.l
def LU(b:Yn):Prop:=0<=b.r/\b.r<=65536
theorem jM:∀(l:List Vt) (a:Int),l.Pairwise (fun a b=>a.Zt<b.Zt)->(∀x∈l,a<=x.Zt/\x.Zt<=39)->a<=40->((H l):Int)<=40-a:=by
 intro l
 induction l with
 | nil=>intro a _ _ h;simp;omega
 | cons x l ih=>
  intro a hp hx ha;rw[ch]at hp;have h1:=hx x uK;have:=ih (x.Zt+1) hp.2 (fun y hy=>⟨by have:=hp.1 y hy;omega,(hx y (by simp[hy])).2⟩) nT;simp only[a1];omega
theorem TJ.len{l:List Vt}(h:TJ l):(H l)<=40:=by
 have:=jM l 0 h.2 (fun x hx=>⟨(h.1 x hx).1.1,(h.1 x hx).1.2⟩) nT;omega
theorem TJ.nil:TJ []:=⟨fun x hx=>by (cases hx),.nil⟩
theorem TJ.ins{l:List Vt}(h:TJ l){v:Vt}(hv:Yo v):TJ (JA l v):=by
 unfold JA;refine⟨fun x hx=>?_,?_⟩
 .rcases a2.1 hx with hx|hx
  .exact h.1 x (bc.1 hx).1
  .rcases bP.1 hx with rfl|hx
   .exact hv
   .exact h.1 x (bc.1 hx).1
 .rw[List.pairwise_append,ch];refine⟨h.2.sublist bt,⟨fun y hy=>by simpa using (bc.1 hy).2,h.2.sublist bt⟩,fun x hx y hy=>?_⟩;have h1:x.Zt<v.Zt:=by simpa using (bc.1 hx).2
  rcases bP.1 hy with rfl|hy
  .exact h1
  .have h2:v.Zt<y.Zt:=by simpa using (bc.1 hy).2
   omega
theorem Da.zero:Da JJ:=⟨.inr ⟨rfl,rfl⟩,TJ.nil⟩
theorem ZD.I(h:ZD b):LU b:=⟨by have:=h.1.1;omega,h.1.2⟩
theorem Da.sc(h:Da a):LU a.p:=by
 rcases h.bal with q|q
 .exact q.I
 .unfold LU;omega
structure Q8(C:List Cm)(l:YF):Prop where
 ZR:0<=l.ZR/\l.ZR<=7
 Jp:0<=l.Jp/\l.Jp<5
 to:0<=l.to/\l.to<5
 b:LU l.b
 Zt:0<=l.v.Zt/\l.v.Zt<40
 vs:TJ l.vs
 cmd:l.ZR=4->l.v.cm∈C
def SX{β:Type}(m:Int)(l:List (Int × β)):Prop:=(l.map (·.1)).Nodup/\∀x∈l.map (·.1),0<=x/\x<m
theorem SX.nil{β:Type}(m:Int):SX m ([]:List (Int × β)):=⟨uK,fun x hx=>by (cases hx)⟩
theorem SX.ins{β:Type}{m:Int}{l:List (Int × β)}(h:SX m l){k:Int}(hk:0<=k/\k<m)(v:β):SX m (ins l k v):=by
 obtain⟨h1,h2⟩:=cX (k:=k) (v:=v) h.1;refine⟨h1,fun x hx=>?_⟩;rcases h2 x hx with rfl|q
 .exact hk
 .exact h.2 x q
theorem sf:∀(m:Nat) (l:List Int),l.Nodup->(∀x∈l,0<=x/\x<(m:Int))->(H l)<=m:=by
 intro m
 induction m with
 | zero=>
  intro l _ h
  cases l with
  | nil=>simp
  | cons x l=>have:=h x uK;omega
 | succ m ih=>
  intro l hn h;have h1:=ih (l.erase (m:Int)) (hn.erase _) (fun x hx=>by
   have hx':=(List.Nodup.mem_erase_iff hn).1 hx;have:=h x hx'.2;have:x≠(m:Int):=hx'.1;omega)
  have:(H l)<=(l.erase (m:Int)).length+1:=by rw[List.length_erase];split<;>omega
  omega
theorem SX.len{β:Type}{m:Nat}{l:List (Int × β)}(h:SX (m:Int) l):(H l)<=m:=by
 have:=sf m _ h.1 h.2
 simpa using this
structure Mz(r:Xw):Prop where
 b:LU r.b
 ZF:SX 5 r.ZF
 vs:∀x∈r.ZF,TJ x.2
 Rw:∀x∈r.YZ,SX 5 x.2
def Znb:Kf->Prop
 | .Vy a to b vs=>Da a/\(0<=to/\to<5)/\LU b/\TJ vs
 | .TC a to v=>Da a/\(0<=to/\to<5)/\Yo v
 | .Zm a vs _=>Da a/\TJ vs
structure Ua(C:List Cm)(i:Nat)(n:Nd):Prop where
 me:n.me=i
 Yt:0<=n.Yt/\n.Yt<5
 Zm:Da n.Zm
 Z8:LU n.Z8
 Zp:∀p,n.Zp=X p->Znb p
 Zg:∀r,n.Zg=X r->Mz r
 Zh:SX 40 n.Zh
 Zw:∀j,j<n.Zw.length->(Yg n.Zh (j:Int)).isSome=true
 Zr:n.Zr.Nodup/\∀x∈n.Zr,x∈C
 data:(H n.data)<=100000
theorem Ua.KQ{C:List Cm}(h:Ua C i n):n.Zw.length<=40:=by
 have h1:=FB n.Zh 0 n.Zw.length (fun j hj=>by simpa using h.Zw j hj);have h2:=h.Zh.len (m:=40);omega
theorem Nk{p:Yn}{l:List Vt}(h:YG p l b=0):ZD b:=by
 unfold YG at h;by_cases c1:Jz p l≠0
 .rw[if_pos c1]at h;cases h
 .rw[if_neg c1]at h;by_cases c2:¬ZD b
  .rw[if_pos c2]at h;cases h
  .simpa using c2
theorem KR{p:Yn}{l:List Vt}{x:Vt}(h:Xi p l x=0):Yo x:=by
 unfold Xi at h;by_cases c1:Jz p l≠0
 .rw[if_pos c1]at h;cases h
 .rw[if_neg c1]at h;by_cases c2:¬Yo x
  .rw[if_pos c2]at h;cases h
  .simpa using c2
theorem dx{l:List Nat}{n:Int}(h:Qs l n k=0):(H l)+(k+5)<=100000:=by
 unfold Qs at h;by_cases c1:¬YX l n
 .rw[if_pos c1]at h;cases h
 .rw[if_neg c1]at h;by_cases c2:100000<(H l)+(k+5)
  .rw[if_pos c2]at h;cases h
  .omega
theorem LV{l:List Nat}{n:Int}(h:Jj l n b=0):(H l)+14<=100000:=by
 unfold Jj at h;by_cases c1:¬YX l n
 .rw[if_pos c1]at h;cases h
 .rw[if_neg c1]at h;by_cases c2:¬ZD b
  .rw[if_pos c2]at h;cases h
  .rw[if_neg c2]at h;exact dx h
theorem dy{l:List Nat}{n:Int}{x:Vt}(h:QW l n x=0):(H l)+38<=100000:=by
 unfold QW at h;by_cases c1:¬YX l n
 .rw[if_pos c1]at h;cases h
 .rw[if_neg c1]at h;by_cases c2:¬Yo x
  .rw[if_pos c2]at h;cases h
  .rw[if_neg c2]at h;exact dx h
theorem Nl(b:Yn):(YR (JQ b)).length=14:=by rw[Vr];rfl
theorem BX(x:Vt):(YR (Uq x)).length=38:=by rw[Vr];rfl
structure Ph(C:List Cm)(i:Nat)(n:Nd)(o:Out):Prop where
 nd:Ua C i o.n
 ls:∀l∈o.ls,Q8 C l
 few:(H o.ls)<=1
 ts:(H o.ts)+o.n.Zi.length<=n.Zi.length
theorem Ph.same{C:List Cm}(h:Ua C i n):Ph C i n ⟨n,[],[]⟩:=⟨h,(fun l hl=>by cases hl),uK,uK⟩
theorem Ph.one{C:List Cm}(h:Ua C i n){l:YF}(hl:Q8 C l):Ph C i n ⟨n,[l],[]⟩:=⟨h,fun x hx=>by
 have:x=l:=by simpa using hx
 rw[this];exact hl,uK,uK⟩
theorem jN{C:List Cm}{l:YF}(hi:i<5)(h:Ua C i n)(hl:Q8 C l):Ph C i n (YA n l):=by
 have AA:0<=(n.me:Int)/\(n.me:Int)<5:=by rw[h.me];omega
 have v0:0<=SM.Zt/\SM.Zt<40:=Iw;unfold YA;by_cases c1:YG n.Zm.p n.Zm.l l.b≠0
 .rw[if_pos c1];exact Ph.one h ⟨uK,AA,hl.Jp,h.Zm.sc,v0,TJ.nil,fun e=>by cases e⟩
 rw[if_neg c1];have hb:ZD l.b:=Nk (by simpa using c1);by_cases c2:n.Zm.p=l.b
 .rw[if_pos c2];exact Ph.one h ⟨uK,AA,hl.Jp,hl.b,v0,h.Zm.YZ,fun e=>by cases e⟩
 rw[if_neg c2];by_cases c3:Jj n.data n.YS l.b≠0
 .rw[if_pos c3];exact Ph.same h
 rw[if_neg c3];have hd:=LV (by simpa using c3);refine⟨{ h with Zp:=?_,data:=?_ },(fun x hx=>by cases hx),uK,uK⟩
 .intro p hp;obtain rfl:=Option.some.inj hp;exact⟨⟨.inl hb,h.Zm.YZ⟩,hl.Jp,hb.I,h.Zm.YZ⟩
 .show (n.data++YR (JQ l.b)).length<=100000;rw[aa,Nl];exact hd
theorem Zd7{C:List Cm}{l:YF}(hi:i<5)(h:Ua C i n)(hl:Q8 C l):Ph C i n (asked n l):=by
 have AA:0<=(n.me:Int)/\(n.me:Int)<5:=by rw[h.me];omega
 have v0:0<=SM.Zt/\SM.Zt<40:=Iw;unfold asked;by_cases c1:Xi n.Zm.p n.Zm.l l.v≠0
 .rw[if_pos c1];exact Ph.one h ⟨uK,AA,hl.Jp,h.Zm.sc,v0,TJ.nil,fun e=>by cases e⟩
 rw[if_neg c1];have hv:Yo l.v:=KR (by simpa using c1);by_cases c2:l.v∈n.Zm.l
 .rw[if_pos c2];exact Ph.one h ⟨uK,AA,hl.Jp,by unfold LU Jg;simp,hl.Zt,TJ.nil,fun e=>by cases e⟩
 rw[if_neg c2];by_cases c3:QW n.data n.YS l.v≠0
 .rw[if_pos c3];exact Ph.same h
 rw[if_neg c3];have hd:=dy (by simpa using c3);refine⟨{ h with Zp:=?_,data:=?_ },(fun x hx=>by cases hx),uK,uK⟩
 .intro p hp;obtain rfl:=Option.some.inj hp;exact⟨⟨.inl hv.2.1,h.Zm.YZ.ins hv⟩,hl.Jp,hv⟩
 .show (n.data++YR (Uq l.v)).length<=100000;rw[aa,BX];exact hd
theorem Zak{C:List Cm}{x:Cm}(h:Ua C i n)(hx:Yg n.Zh (n.Zw.length:Int)=X x):Ua C i (JZ n x)/\(WT n x).length+(JZ n x).Zi.length<=n.Zi.length:=by
 refine⟨{ h with Zw:=?_,Zr:=?_ },?_⟩
 .intro j hj;have hj':j<(n.Zw++[x]).length:=hj;show (Yg n.Zh (j:Int)).isSome=true;rw[aa,bl]at hj';by_cases e:j<n.Zw.length
  .exact h.Zw j e
  .have:j=n.Zw.length:=nT;subst this;rw[hx];rfl
 .exact⟨h.Zr.1.sublist bt,fun y hy=>h.Zr.2 y (bc.1 hy).1⟩
 .show (WT n x).length+(n.Zi.erase x).length<=n.Zi.length;unfold WT;by_cases c:x∈n.Zi
  .rw[if_pos c,bd c];have:=bg c;simp;omega
  .rw[if_neg c,List.erase_of_not_mem c];simp
theorem sj{C:List Cm}:∀(k:Nat) (n:Nd),Ua C i n->Ua C i (Ye k n).1/\(Ye k n).2.length+(Ye k n).1.Zi.length<=n.Zi.length:=by
 intro k
 induction k with
 | zero=>intro n h;exact⟨h,by simp[Ye]⟩
 | succ k ih=>
  intro n h;unfold Ye
  cases hx:Yg n.Zh (n.Zw.length:Int) with
  | none=>exact⟨h,uK⟩
  | some x=>
   obtain⟨h1,h2⟩:=Zak h hx;obtain⟨h3,h4⟩:=ih _ h1;refine⟨h3,?_⟩;simp only[aa];omega
theorem mZ{C:List Cm}(h:Ua C i n)(s:Int)(x:Cm)(hs:0<=s/\s<40):Ph C i n (X8 n s x):=by
 have h1:Ua C i (Jd n s x):={ h with
  Zh:=h.Zh.ins hs x
  Zw:=fun j hj=>by
   show (Yg (ins n.Zh s x) (j:Int)).isSome=true;rw[Xb];split
   .rfl
   .exact h.Zw j hj }
 obtain⟨h2,h3⟩:=sj ((Jd n s x).Zh.length+1) (Jd n s x) h1;exact⟨h2,(fun l hl=>by cases hl),by simp[X8],h3⟩
theorem FM{β:Type}:∀{l:List (Int × β)} {k:Int} {v:β} {x:Int × β},x∈ins l k v->x.2=v\/x∈l:=by
 intro l
 induction l with
 | nil=>
  intro k v x hx;left;have:x=(k,v):=by simpa [ins] using hx
  rw[this]
 | cons y l ih=>
  intro k v x hx;obtain⟨a,b⟩:=y;unfold ins at hx;split at hx
  .rcases bP.1 hx with rfl|hx
   .exact .inl rfl
   .exact .inr (by simp[hx])
  .rcases bP.1 hx with rfl|hx
   .exact .inr uK
   .rcases ih hx with q|q
    .exact .inl q
    .exact .inr (by simp[q])
theorem jO{C:List Cm}{l:YF}(hi:i<5)(h:Ua C i n)(hl:Q8 C l):Ph C i n (Ym n l):=by
 unfold Ym
 cases hr:n.Zg with
 | none=>exact Ph.same h
 | some r=>
  have R:=h.Zg r hr;have hs:∀r',(TD n r l).Zg=X r'->Mz r':=by
   intro r' UQ;obtain rfl:=Option.some.inj UQ;refine⟨R.b,R.ZF,R.vs,fun x hx=>?_⟩;rcases FM hx with q|q
   .rw[q];unfold QY;refine SX.ins ?_ hl.Jp ()
    cases hk:Yg r.YZ l.v.Zt with
    | none=>exact SX.nil 5
    | some s=>exact R.Rw _ (RQ hk)
   .exact R.Rw x q
  have hv:Ua C i (TD n r l):={ h with Zg:=hs }
  simp only;split
  .split
   .refine⟨{ h with Zg:=fun r' UQ=>?_ },(fun x hx=>by cases hx),uK,by simp[Zdv]⟩;obtain rfl:=Option.some.inj UQ;refine⟨R.b,R.ZF.ins hl.Jp l.vs,fun x hx=>?_,R.Rw⟩;rcases FM hx with q|q
    .rw[q];exact hl.vs
    .exact R.vs x q
   .exact Ph.same h
  .split
   .exact Ph.same h
   .split
    .have:=mZ hv l.v.Zt l.v.cm hl.Zt;exact⟨this.nd,this.ls,this.few,this.ts⟩
    .exact⟨hv,(fun x hx=>by cases hx),uK,by simp[TD]⟩
theorem ZfH{C:List Cm}{x:Cm}(h:Ua C i n)(hx:x∈C):Ua C i (add n x):=by
 unfold add;split
 .exact h
 .rename_i q;refine { h with Zr:=⟨?_,fun y hy=>?_⟩ }
  .show (n.Zr++[x]).Nodup;rw[cj];refine⟨h.Zr.1,uK,fun a ha b hb e=>?_⟩;have:b=x:=by simpa using hb
   exact q (.inl (by rw[<-this,<-e];exact ha))
  .have hy:y∈n.Zr++[x]:=hy;rcases a2.1 hy with hy|hy
   .exact h.Zr.2 y hy
   .have:y=x:=by simpa using hy
    rw[this];exact hx
theorem m7{C:List Cm}{l:YF}(h:Ua C i n)(hl:Q8 C l):Ua C i (Xk n l):=by
 unfold Xk;split
 .exact { h with Z8:=hl.b }
 .exact h
theorem Zd8{C:List Cm}{l:YF}(hi:i<5)(h:Ua C i n)(hl:Q8 C l):Ph C i n (Qd n l):=by
 have AA:0<=(n.me:Int)/\(n.me:Int)<5:=by rw[h.me];omega
 have hn:=m7 h hl;have hw:(Xk n l).Zi=n.Zi:=by unfold Xk;split<;>rfl
 unfold Qd;split
 .next y _=>
  refine⟨hn,fun x hx=>?_,uK,by simp[hw]⟩;have:x=⟨6,n.me,l.Jp,Jg,QC l.v.Zt Jg y,[]⟩:=by simpa using hx
  rw[this];exact⟨uK,AA,hl.Jp,by unfold LU Jg;simp,hl.Zt,TJ.nil,fun e=>by cases e⟩
 .exact⟨hn,(fun x hx=>by cases hx),uK,by simp[hw]⟩
theorem LW{C:List Cm}{l:YF}(hi:i<5)(h:Ua C i n)(hl:Q8 C l):Ph C i n (Zu n l):=by
 have hw:(Xk n l).Zi=n.Zi:=by unfold Xk;split<;>rfl
 unfold Zu;split
 .exact jN hi h hl
 split
 .exact jO hi h hl
 split
 .exact Zd7 hi h hl
 split
 .rename_i e;refine⟨ZfH h (hl.cmd e),(fun x hx=>by cases hx),uK,?_⟩;have:(add n l.v.cm).Zi=n.Zi:=by unfold add;split<;>rfl
  simp[this]
 split
 .exact Zd8 hi h hl
 split
 .exact mZ h _ _ hl.Zt
 .exact⟨m7 h hl,(fun x hx=>by cases hx),uK,by simp[hw]⟩
theorem Ua.Zf{C:List Cm}(h:Ua C i n)(k:List YF):Ua C i { n with Zf:=k }:={ h with }
theorem nc{C:List Cm}(hi:i<5):∀(k:List YF) (n:Nd),Ua C i n->(∀l∈k,Q8 C l) ->
  Ua C i (Zy n k).n/\(∀l∈(Zy n k).ls,Q8 C l)/\(∀l∈(Zy n k).n.Zf,Q8 C l)/\(Zy n k).ls.length+(Zy n k).n.Zf.length<=(H k)/\(Zy n k).ts.length+(Zy n k).n.Zi.length<=n.Zi.length:=by
 intro k
 induction k with
 | nil=>
  intro n h _;unfold Zy;exact⟨h.Zf [],(fun x hx=>by cases hx),(fun x hx=>by cases hx),uK,uK⟩
 | cons l k ih=>
  intro n h hk;unfold Zy;split
  .exact⟨h.Zf _,(fun x hx=>by cases hx),hk,uK,uK⟩
  .have o:=LW hi (h.Zf k) (hk l uK);obtain⟨h1,h2,h3,h4,h5⟩:=ih _ o.nd (fun x hx=>hk x (by simp[hx]));have ots:=o.ts;have of:=o.few;refine⟨h1,fun x hx=>?_,h3,?_,?_⟩
   .rcases a2.1 hx with hx|hx
    .exact o.ls x hx
    .exact h2 x hx
   .simp only[aa,a1];omega
   .simp only[aa];have:({ n with Zf:=k }:Nd).Zi=n.Zi:=rfl;rw[this]at ots;omega
theorem Nm:∀{l C:List Cm},l.Nodup->(∀x∈l,x∈C)->(H l)<=(H C):=by
 intro l
 induction l with
 | nil=>intro C _ _;simp
 | cons x l ih=>
  intro C hn hs;rw[cr]at hn;have hx:=hs x uK;have h1:=ih (C:=C.erase x) hn.2 (fun y hy=>by
   have Y4:y≠x:=fun e=>hn.1 (by rw[<-e];exact hy);exact (ca Y4).2 (hs y (by simp[hy])))
  rw[bd hx]at h1;have:=bg hx;simp only[a1];omega
theorem Ua.hand{C:List Cm}{l:YF}(h:Ua C i n)(hl:Q8 C l)(hC:(H C)<=100000)(hw:n.Zi.length<=100000){f t:Nat}(hf:f<=100000000000)(ht:t<=1000000):jG n l f t:=by
 have KN:=h.KQ;have uf:=h.Zh.len (m:=40);have hq:n.Zr.length<=(H C):=Nm h.Zr.1 h.Zr.2;refine⟨hl.ZR,nT,by have:=h.Zm.YZ.len;omega,by have:=h.data;omega,nT,nT,nT,nT,nT,fun r s hr=>?_⟩
 cases hk:Yg r.YZ s with
 | none=>simp
 | some x=>
  have:=(h.Zg r hr).Rw _ (RQ hk);have:(H x)<=5:=this.len (m:=5);simp only[Option.getD_some];omega
theorem Ua.dut{C:List Cm}(h:Ua C i n)(hC:(H C)<=100000){f:Nat}(hf:f<=100000000000):Zaf n f:=by
 have KN:=h.KQ;have hq:n.Zr.length<=(H C):=Nm h.Zr.1 h.Zr.2;refine⟨nT,by have:=h.Zm.YZ.len;omega,by have:=h.data;omega,fun r hr=>?_,nT,nT,h.Yt⟩;have R:=h.Zg r hr;have hp:r.ZF.length<=5:=R.ZF.len (m:=5);refine⟨fun x hx=>by have:=(R.vs x hx).len;omega,fun x hx v hv=>?_,nT⟩;have:=((R.vs x hx).1 v hv).1.2;omega
theorem Zal{C:List Cm}(hi:i<5)(hC:(H C)<=100000):∀(k:List YF) (n:Nd),Ua C i n->(∀l∈k,Q8 C l)->n.Zi.length<=100000->∀f t,f+(H k)<=100000000000->t+n.Zi.length<=1000000->Ni n k f t:=by
 intro k
 induction k with
 | nil=>intro n _ _ _ f t _ _;exact trivial
 | cons l k ih=>
  intro n h hk hw f t hf ht;simp only[a1]at hf;unfold Ni;by_cases hp:n.Zp.isSome=true
  .exact .inl hp
  .have o:=LW hi (h.Zf k) (hk l uK);have ots:=o.ts;have of:=o.few;have:({ n with Zf:=k }:Nd).Zi=n.Zi:=rfl;rw[this]at ots;exact .inr ⟨(h.Zf k).hand (hk l uK) hC hw nT nT,ih _ o.nd (fun x hx=>hk x (by simp[hx])) nT _ _ nT nT⟩
theorem Zam{C:List Cm}(hi:i<5)(hC:(H C)<=100000)(h:Ua C i n)(hk:∀l∈n.Zf,Q8 C l)(hw:n.Zi.length<=100000){f t:Nat}(hf:f+n.Zf.length<=100000000000)(ht:t+n.Zi.length<=1000000):jH n f t:=by
 obtain⟨h1,h2,h3,h4,h5⟩:=nc hi n.Zf n h hk;exact⟨by have:=h.data;omega,nT,fun _=>Zal hi hC n.Zf n h hk hw f t hf ht,fun _ _=>h1.dut hC nT⟩
theorem Zd9{r:Xw}{x:Cm}(R:Mz r):Mz (J4 n r x):=by
 unfold J4;split
 .exact⟨R.b,R.ZF,R.vs,R.Rw⟩
 .exact R
theorem sq:∀(l:List Cm) (r:Xw),Mz r->Mz (Jb n r l):=by
 intro l
 induction l with
 | nil=>intro r R;exact R
 | cons x l ih=>intro r R;exact ih _ (Zd9 R)
theorem Zea{r:Xw}(R:Mz r):Mz (XJ n r):=by
 unfold XJ;refine sq _ _ ?_;split
 .exact R
 .exact⟨R.b,R.ZF,R.vs,R.Rw⟩
theorem BY:LU Jg:=by unfold LU Jg;simp
theorem Zh2{C:List Cm}{r:Xw}(hi:i<5)(h:Ua C i n)(R:Mz r):Ua C i (Js n r).n/\(∀l∈(Js n r).ls,Q8 C l)/\(Js n r).n.Zf=n.Zf/\(Js n r).n.Zi=n.Zi:=by
 have AA:0<=(n.me:Int)/\(n.me:Int)<5:=by rw[h.me];omega
 have v0:0<=SM.Zt/\SM.Zt<40:=Iw;unfold Js;split
 .split
  .exact⟨h,(fun x hx=>by cases hx),rfl,rfl⟩
  .rename_i hd;have hd:=LV (by simpa using hd);refine⟨{ h with Zp:=?_,data:=?_ },(fun x hx=>by cases hx),rfl,rfl⟩
   .intro p hp;obtain rfl:=Option.some.inj hp;by_cases c:YG n.Zm.p n.Zm.l r.b=0
    .simp only[c,if_true];exact⟨⟨.inl (Nk c),h.Zm.YZ⟩,h.Zm.YZ⟩
    .simp only[c,if_false];exact⟨Da.zero,TJ.nil⟩
   .show (n.data++YR (JQ r.b)).length<=100000;rw[aa,Nl];exact hd
 .split
  .refine⟨h,fun l hl=>?_,rfl,rfl⟩;unfold SP at hl;simp only[bS,bh]at hl;obtain⟨m,hm,hl⟩:=hl;split at hl
   .have:l=⟨0,n.me,m,r.b,SM,[]⟩:=by simpa using hl
    rw[this];exact⟨uK,AA,by simp only;omega,R.b,v0,TJ.nil,fun e=>by cases e⟩
   .cases hl
  .refine⟨{ h with Zg:=fun r' UQ=>?_ },fun l hl=>?_,rfl,rfl⟩
   .obtain rfl:=Option.some.inj UQ;exact Zea R
   .unfold Wr at hl;simp only[bS,bh]at hl;obtain⟨s,hs,hl⟩:=hl;unfold WU at hl;split at hl
    .split at hl
     .simp only[bS,bh]at hl;obtain⟨m,hm,hl⟩:=hl;unfold Pe at hl;split at hl
      .next x _ _ _=>
       have:l=⟨2,n.me,m,Jg,QC s (XJ n r).b x,[]⟩:=by simpa using hl
       rw[this];exact⟨uK,AA,by simp only;omega,BY,by simp only[QC];omega,TJ.nil,fun e=>by cases e⟩
      .cases hl
     .cases hl
    .cases hl
theorem ng{C:List Cm}(h:Ua C i n):Ua C i (Zn n)/\(Zn n).Zf=n.Zf/\(Zn n).Zi=n.Zi:=by
 unfold Zn;split
 .split
  .exact⟨{ h with Zg:=fun r hr=>by cases hr },rfl,rfl⟩
  .exact⟨h,rfl,rfl⟩
 .exact⟨h,rfl,rfl⟩
theorem Zeb{C:List Cm}(hi:i<5)(h:Ua C i n):Ua C i (Z2 n).n/\(∀l∈(Z2 n).ls,Q8 C l)/\(Z2 n).n.Zf=n.Zf/\(Z2 n).n.Zi=n.Zi:=by
 have AA:0<=(n.me:Int)/\(n.me:Int)<5:=by rw[h.me];omega
 unfold Z2;split
 .next r hr=>exact Zh2 hi h (h.Zg r hr)
 .split
  .rename_i q;refine⟨h,fun l hl=>?_,rfl,rfl⟩;unfold U3 at hl;simp only[co]at hl;obtain⟨x,hx,rfl⟩:=hl;have hb:ZD n.Zm.p:=by
    rcases h.Zm.bal with e|e
    .exact e
    .have:=q.1;omega
   exact⟨uK,AA,by simp only;have:=hb.2;omega,BY,by simp[QC],TJ.nil,fun _=>h.Zr.2 x hx⟩
  .exact⟨h,(fun x hx=>by cases hx),rfl,rfl⟩
theorem Zec{C:List Cm}(h:Ua C i n):LU (Ws n):=by
 unfold Ws;split
 .exact h.Z8
 .exact h.Zm.sc
theorem jP{C:List Cm}(hi:i<5)(hC:(H C)<=100000)(h:Ua C i n):Ua C i (Yi n).n/\(∀l∈(Yi n).ls,Q8 C l)/\(Yi n).n.Zf=n.Zf/\(Yi n).n.Zi=n.Zi/\(Yi n).ls.length<=100201/\(Yi n).ts=[]:=by
 obtain⟨s1,s2,s3⟩:=ng h;obtain⟨d1,d2,d3,d4⟩:=Zeb hi s1;have hq:(Zn n).Zr.length<=(H C):=Nm s1.Zr.1 s1.Zr.2;have hls:=dg (Zn n);unfold Yi;split
 .exact⟨d1,d2,by rw[d3,s2],by rw[d4,s3],nT,(My _).2.2.2.2.2⟩
 .have tt:0<=((Z2 (Zn n)).n.Yt+1)%5/\((Z2 (Zn n)).n.Yt+1)%5<5:=nT;have t1:Ua C i (JD (Z2 (Zn n)).n):={ d1 with Yt:=tt }
  have AA:0<=((JD (Z2 (Zn n)).n).me:Int)/\((JD (Z2 (Zn n)).n).me:Int)<5:=by rw[t1.me];omega
  refine⟨t1,fun l hl=>?_,by show (Z2 (Zn n)).n.Zf=_;rw[d3,s2],by show (Z2 (Zn n)).n.Zi=_;rw[d4,s3],?_,rfl⟩
  .rcases a2.1 hl with hl|hl
   .exact d2 l hl
   .unfold QZ at hl;split at hl
    .rename_i q;have:l=⟨5,(JD (Z2 (Zn n)).n).me,(JD (Z2 (Zn n)).n).Yt,Ws (JD (Z2 (Zn n)).n),QC (JD (Z2 (Zn n)).n).Zw.length Jg Nv,[]⟩:=by simpa using hl
     rw[this];exact⟨uK,AA,t1.Yt,Zec t1,by simp only[QC];have:=q.2;omega,TJ.nil,fun e=>by cases e⟩
    .cases hl
  .have:(QZ (JD (Z2 (Zn n)).n)).length<=1:=by unfold QZ;split<;>simp
   simp only[aa];omega
theorem FN{C:List Cm}(h:Ua C i n):Ua C i (ZM n):=by
 refine { h with Zp:=(fun p hp=>by cases hp),data:=?_ };show (if YX n.data n.YS then n.data else []).length<=100000;split
 .exact h.data
 .simp
theorem FO{C:List Cm}{p:Kf}(hi:i<5)(h:Ua C i n)(P:Znb p):Ua C i (YL n p).n/\(∀l∈(YL n p).ls,Q8 C l)/\(YL n p).n.Zf=n.Zf/\(YL n p).n.Zi=n.Zi/\(YL n p).ls.length<=1/\(YL n p).ts=[]:=by
 have AA:0<=(n.me:Int)/\(n.me:Int)<5:=by rw[h.me];omega
 have v0:0<=SM.Zt/\SM.Zt<40:=Iw
 cases p with
 | Vy a to b vs=>
  obtain⟨p1,p2,p3,p4⟩:=P;refine⟨{ h with Zm:=p1 },fun l hl=>?_,rfl,rfl,by simp[YL],rfl⟩;have:l=⟨1,n.me,to,b,SM,vs⟩:=by simpa [YL] using hl
  rw[this];exact⟨uK,AA,p2,p3,v0,p4,fun e=>by cases e⟩
 | TC a to v=>
  obtain⟨p1,p2,p3⟩:=P;refine⟨{ h with Zm:=p1 },fun l hl=>?_,rfl,rfl,by simp[YL],rfl⟩;have:l=⟨3,n.me,to,Jg,v,[]⟩:=by simpa [YL] using hl
  rw[this];exact⟨uK,AA,p2,BY,by have:=p3.1;simp only;omega,TJ.nil,fun e=>by cases e⟩
 | Zm a vs cur=>
  obtain⟨p1,p2⟩:=P;refine⟨{ h with Zm:=p1,Zg:=fun r hr=>?_ },(fun x hx=>by cases hx),rfl,rfl,by simp[YL],rfl⟩;have hr:(if cur=true then n.Zg.map (fun r=>{ r with ZF:=ins r.ZF n.me vs }) else n.Zg)=X r:=hr;split at hr
  .rw[ba]at hr;obtain⟨r0,h0,rfl⟩:=hr;have R:=h.Zg r0 h0;refine⟨R.b,R.ZF.ins AA vs,fun x hx=>?_,R.Rw⟩;rcases FM hx with q|q
   .rw[q];exact p2
   .exact R.vs x q
  .exact h.Zg r hr
theorem Zh3{C:List Cm}(hi:i<5)(hC:(H C)<=100000)(h:Ua C i n)(hk:∀l∈n.Zf,Q8 C l):
  Ua C i (step n).n/\(∀l∈(step n).ls,Q8 C l)/\(∀l∈(step n).n.Zf,Q8 C l)/\(step n).ls.length+(step n).n.Zf.length<=n.Zf.length+100201/\(step n).ts.length+(step n).n.Zi.length<=n.Zi.length:=by
 unfold step;split
 .cases hp:n.Zp with
  | some p=>
   obtain⟨f1,f2,f3,f4,f5,f6⟩:=FO hi (FN h) (h.Zp p hp);refine⟨f1,f2,by simp only;rw[f3];exact hk,?_,?_⟩
   .simp only;rw[f3];show _+n.Zf.length<=_;omega
   .simp only;rw[f4,f6];show 0+n.Zi.length<=_;omega
  | none=>
   obtain⟨d1,d2,d3,d4,d5⟩:=nc hi n.Zf n h hk;simp only;split
   .exact⟨d1,d2,d3,nT,d5⟩
   .obtain⟨e1,e2,e3,e4,e5,e6⟩:=jP hi hC d1;refine⟨e1,fun l hl=>?_,by simp only;rw[e3];exact d3,?_,?_⟩
    .rcases a2.1 hl with hl|hl
     .exact d2 l hl
     .exact e2 l hl
    .simp only[aa];rw[e3];omega
    .simp only;rw[e4,e6,List.append_nil];exact d5
 .exact⟨h,(fun x hx=>by cases hx),hk,uK,uK⟩
theorem Zh4{a':UH}{b:List Nat}(h:JC a b=X a')(ha:Da a):Da a':=by
 unfold JC at h;split at h
 .split at h
  .rename_i q
   cases h
   exact⟨.inl (Nk q),ha.YZ⟩
  .cases h
 .split at h
  .split at h
   .cases h
   .split at h
    .rename_i q
     cases h
     have hv:=KR q;exact⟨.inl hv.2.1,ha.YZ.ins hv⟩
    .cases h
  .cases h
theorem Zed(l:List Nat):∀(f:Nat) (a:UH) (k:Nat),Da a->Da (Fv l f a k).1:=by
 intro f
 induction f with
 | zero=>intro a k h;exact h
 | succ f ih=>
  intro a k h;unfold Fv
  cases hs:Y2 l a k with
  | none=>exact h
  | some x=>
   refine ih _ _ ?_;unfold Y2 at hs;split at hs
   .rw[ba]at hs;obtain⟨y,hy,rfl⟩:=hs;exact Zh4 hy h
   .cases hs
theorem Zan(l:List Nat):Da (TE l).1:=Zed l _ _ _ Da.zero
theorem H7{C:List Cm}{up:Bool}{data:List Nat}{YS:Int}{Zm:UH}(hd:(H data)<=100000)(ho:Da Zm):Ua C i (Yl i up data YS Zm):=
 ⟨rfl,by unfold Yl;simp,ho,BY,(fun p hp=>by cases hp),(fun r hr=>by cases hr),SX.nil 40,(fun j hj=>by cases hj),⟨by simp[Yl],(fun x hx=>by cases hx)⟩,hd⟩
theorem sr{C:List Cm}(h:Ua C i n)(Ze:Int):Ua C i (XF i n Ze)/\((XF i n Ze).Zf=[]/\(XF i n Ze).Zi=[]\/XF i n Ze=n):=by
 unfold XF;split
 .split
  .refine⟨H7 ?_ Da.zero,.inl ⟨rfl,rfl⟩⟩;have:=h.data;rw[a5];omega
  .exact⟨H7 uK Da.zero,.inl ⟨rfl,rfl⟩⟩
 .exact⟨h,.inr rfl⟩
theorem Ca{C:List Cm}(h:Ua C i n):Ua C i (started i n)/\((started i n).Zf=[]/\(started i n).Zi=[]\/started i n=n):=by
 unfold started;split
 .exact⟨h,.inr rfl⟩
 .refine⟨H7 ?_ ?_,.inl ⟨rfl,rfl⟩⟩
  .unfold Fw;have:=h.data;split
   .rw[a5];omega
   .simp
  .split
   .exact Zan _
   .exact Da.zero
theorem Zao{C:List Cm}(h:Ua C i n):Ua C i (lead n)/\(lead n).Zf=n.Zf/\(lead n).Zi=n.Zi:=by
 unfold lead;split
 .exact⟨h,rfl,rfl⟩
 .rename_i q;refine⟨{ h with Zp:=?_,Zg:=fun r hr=>?_ },rfl,rfl⟩
  .intro p hp;have hp:XV n.Zp=X p:=hp
   cases hn:n.Zp with
   | none=>rw[hn]at hp;cases hp
   | some p0=>
    have P:=h.Zp p0 hn;rw[hn]at hp
    cases p0 with
    | Vy a to b vs=>cases hp;exact P
    | TC a to v=>cases hp;exact P
    | Zm a vs cur=>cases hp;exact P
  .obtain rfl:=Option.some.inj hr;refine⟨⟨?_,?_⟩,SX.nil 5,(fun x hx=>by cases hx),(fun x hx=>by cases hx)⟩
   .have h1:=h.Zm.sc.1;show 0<=(Je n).r;unfold Je;simp only;split<;>omega
   .have:¬65536<(Je n).r:=fun e=>q (.inr e);show (Je n).r<=65536;omega
def VF(f:Nat->Nat):Nat:=f 0+f 1+f 2+f 3+f 4
theorem Zap(f:Nat->Nat)(i a:Nat)(hi:i<5):VF (fun j=>if j=i then a else f j)+f i=VF f+a:=by
 unfold VF
 match i,hi with
 | 0,_=>simp;omega
 | 1,_=>simp;omega
 | 2,_=>simp;omega
 | 3,_=>simp;omega
 | 4,_=>simp;omega
theorem nh(f:Nat->Nat)(i:Nat)(hi:i<5):f i<=VF f:=by
 unfold VF
 match i,hi with
 | 0,_=>omega
 | 1,_=>omega
 | 2,_=>omega
 | 3,_=>omega
 | 4,_=>omega
structure WI(C:List Cm)(k:Nat)(w:Wd):Prop where
 nd:∀i,i<5->Ua C i (w.Zb i)
 Ub:∀i,i<5->∀l∈(w.Zb i).Zf,Q8 C l
 PI:∀l∈w.Zo,Q8 C l
 room:w.Zo.length+VF (fun i=>(w.Zb i).Zf.length)<=k*100300
 wait:w.ZA.length+VF (fun i=>(w.Zb i).Zi.length)<=k
 Yw:∀i,0<=w.Yw i/\w.Yw i<=k
theorem RC(w:Wd)(i:Nat)(n:Nd)(g:Nd->Nat)(hi:i<5):VF (fun j=>g (if j=i then n else w.Zb j))+g (w.Zb i)=VF (fun j=>g (w.Zb j))+g n:=by
 have:=Zap (fun j=>g (w.Zb j)) i (g n) hi;have e:(fun j=>g (if j=i then n else w.Zb j))=(fun j=>if j=i then g n else g (w.Zb j)):=by
  funext j;split<;>rfl
 rw[e];exact this
theorem WI.out{C:List Cm}{w:Wd}(h:WI C k w)(hi:i<5){o:Out}(h1:Ua C i o.n)(h2:∀l∈o.ls,Q8 C l)(h3:∀l∈o.n.Zf,Q8 C l)(h4:(H o.ls)+o.n.Zf.length<=(w.Zb i).Zf.length+100300)(h5:(H o.ts)+o.n.Zi.length<=(w.Zb i).Zi.length+1):WI C (k+1) (w.out i o):=by
 unfold Wd.out;refine⟨fun j hj=>?_,fun j hj l hl=>?_,fun l hl=>?_,?_,?_,fun j=>by have:=h.Yw j;simp only;omega⟩
 .by_cases e:j=i
  .subst e;simpa using h1
  .simp only[if_neg e];exact h.nd j hj
 .by_cases e:j=i
  .subst e;simp only[if_true]at hl;exact h3 l hl
  .simp only[if_neg e]at hl;exact h.Ub j hj l hl
 .rcases a2.1 hl with hl|hl
  .exact h.PI l hl
  .exact h2 l hl
 .have:=RC w i o.n (fun n=>n.Zf.length) hi;have hr:=h.room;simp only[aa]at this ⊢;omega
 .have:=RC w i o.n (fun n=>n.Zi.length) hi;have hr:=h.wait;simp only[aa]at this ⊢;omega
theorem Sw(w:Wd)(i:Nat)(n:Nd):w.set i n=w.out i ⟨n,[],[]⟩:=by
 unfold Wd.set Wd.out;simp
theorem WI.more{C:List Cm}{w:Wd}(h:WI C k w):WI C (k+1) w:=
 ⟨h.nd,h.Ub,h.PI,bk h.room (bo _ (bA k)),bk h.wait (bA k),fun i=>⟨(h.Yw i).1,by have:=(h.Yw i).2;omega⟩⟩
theorem WI.ok{C:List Cm}{w:Wd}(h:WI C k w)(hC:(H C)<=100000)(hk:k<=100000):WOk w:=by
 have hr:=h.room;have hw:=h.wait;have Ma:∀i,i<5->(w.Zb i).Zf.length+w.Zo.length<=10030000000:=fun i hi=>by
  have:(w.Zb i).Zf.length<=_:=nh (fun i=>(w.Zb i).Zf.length) i hi;omega
 have Gd:∀i,i<5->(w.Zb i).Zi.length+w.ZA.length<=100000:=fun i hi=>by
  have:(w.Zb i).Zi.length<=_:=nh (fun i=>(w.Zb i).Zi.length) i hi;omega
 refine⟨fun i hi=>(h.nd i hi).me,fun i hi=>Zam hi hC (h.nd i hi) (h.Ub i hi) (by have:=Gd i hi;omega) (by have:=Ma i hi;omega) (by have:=Gd i hi;omega),fun i hi=>?_,fun i hi=>?_,fun i hi=>?_,fun i hi=>?_,fun i hi=>?_,?_,fun i hi=>?_,fun i hi=>?_,fun i hi r hr=>?_,fun l hl=>(h.PI l hl).to,?_⟩
 .have:=Nm (h.nd i hi).Zr.1 (h.nd i hi).Zr.2;omega
 .have:=(h.nd i hi).KQ;omega
 .have:=Gd i hi;omega
 .have:=Ma i hi;omega
 .have:=(h.nd i hi).data;omega
 .have:=Gd 0 nT;omega
 .have:=h.Yw i;omega
 .have h1:=(h.nd i hi).Zm.sc;have h2:=(h.nd i hi).Z8;unfold LU at h1 h2;omega
 .have h1:=((h.nd i hi).Zg r hr).b;unfold LU at h1;omega
 .have:=Ma 0 nT;omega
set_option maxRecDepth 100000
set_option maxHeartbeats 8000000 in
theorem Zh5(T:bC)(h:Hp)(o:Ow)(wb:Nat)(YM:Nat->Nat)(Xt:WA)(w:Wd)(a:Ac)(dv:ae)(d:Vx o h)(A:QD o h wb YM Xt w)(ok:WOk w)(hk:1<=a.ZR/\a.ZR<=9)(hi:a.ZV<5)(iv:PT o h dv a.data)(hrl:(H a.data)<=140737488355328)(tb:fK o h):
  Zd a8 T 35 #[Zx wb,a0 (FK a.ZR a.ZV a.at' a.Ze dv).toArray] h fun v' h'=>∃o' Jv Zv4,Kp SW o h o' h'/\QD o' h' wb Zv4 Jv (act w a):=by
 obtain⟨pd,cd,hdv,Vk⟩:=iv.1.fits;have cF:PM dv:=by rw[hdv];exact Vk
 subst hdv;refine Zd.XT [_,_] Tryz.func35 ?_;unfold Zx FK;obtain⟨h1,Xm⟩:=ZN (h.push (ab (FK a.ZR a.ZV a.at' a.Ze (U pd (H a.data) cd)).toArray 36):Hp);have k1:Kp WL o h o h1:=by rw[Xm];exact Yu d _
 have x3:Ya o h1 h.size (ab (FK a.ZR a.ZV a.at' a.Ze (U pd (H a.data) cd)).toArray 36):=⟨d _ (ao _),by rw[Xm];exact Zc⟩
 have e0:=Xm.symm;unfold FK at e0;have A1:=A.Zn k1;have tb1:=tb.Ze k1;have R1:=XP A1.wd.ZW.2;have Rn:=R1.Zb;obtain⟨b,off,c,hn,hc5,hb,PH⟩:=TH A1.wd;rw[hn]at Rn;have BS:=Za A1.wd.ZW.2;have q0:hc h1 ⟨h.size,0,Y⟩=X (W O a.ZR):=Zl x3.2;have q1:hc h1 ⟨h.size,1,Y⟩=X (W O a.ZV):=Zl x3.2;have q2:hc h1 ⟨h.size,2,Y⟩=X (W O a.at'):=Zl x3.2;have q3:hc h1 ⟨h.size,3,Y⟩=X (W O a.Ze):=Zl x3.2;have q4:hc h1 ⟨h.size,4,Y⟩=X (U pd (H a.data) cd):=Zl x3.2;have l3:=Za x3.2;have ri:=PH a.ZV hi;unfold Zx at ri;have Kz:(a.ZV:Int)<5:=nT;obtain⟨na,N1⟩:=A1.nd a.ZV hi;have TU:=Za N1.ZW.2;have iv1:=iv.Ze k1;have zX:a.ZR=1\/a.ZR=2\/a.ZR=3\/(a.ZR=4\/a.ZR=5\/a.ZR=6)\/a.ZR=7\/a.ZR=8\/a.ZR=9:=nT;rcases zX with e|e|e|e|e|e|e
 ·-- a command
  have ea:act w a=Jk w a.ZV a.data:=by unfold act;rw[if_pos e]
  rw[ea];rw[e]at q0;have cs:=rW T h1 o wb YM Xt w a.ZV a.data (U pd (H a.data) cd) k1.Yp A1 hi (ok.me _ hi) iv1 cF hrl tb1 (by have:=ok.Zr _ hi;omega) (by have:=ok.Zw _ hi;omega) (by have:=ok.Zi _ hi;omega) (by have:=ok.ZA;omega) (ok.Yw _ hi);unfold Zx at cs;simp only[go_sem,e0,q0];refine VS.z (h1.size) [11] (.p 0 (.p 1 (.p 2 (.p 3 (.q 4 (.p 5 (.q 6 (.p 7 (.q 8 (.p 9 (.q 10 (.w 11 .nil)))))))))))) mixed uj ?_;simp only[go_sem,Rn,q1,q4,BS,l3,hb,Kz,ri];refine cs.use ?_;rintro v' g ⟨o',Jv,kk,A'⟩;simp only[go_sem];exact⟨o',Jv,YM,(YQ k1).trans kk,A'⟩
 ·-- to lead
  have ea:act w a=w.set a.ZV (lead (w.Zb a.ZV)):=by unfold act;rw[if_neg nT,if_pos e]
  rw[ea];rw[e]at q0;have cs:=Zd5 T h1 o wb a.ZV (YM a.ZV) na (w.Zb a.ZV) k1.Yp N1 (ok.Zv1 _ hi) (ok.VN _ hi);unfold Zx at cs;simp only[go_sem,e0,q0];refine VS.z (h1.size) [9] (.p 0 (.p 1 (.p 2 (.p 3 (.q 4 (.p 5 (.q 6 (.p 7 (.q 8 (.w 9 .nil)))))))))) mixed uj ?_;simp only[go_sem,Rn,q1,BS,l3,hb,Kz,ri];refine cs.use ?_;rintro v' g ⟨o',a',kk,N'⟩;simp only[go_sem];exact⟨o',Xt,YM,(YQ k1).trans (YQ kk),A1.Yt (kk.mono fun t q=>.inr (.inr (.inr q))) N' (A1.wd.Ze kk fun t q e=>by rw[q]at e;cases e)⟩
 ·-- a step
  have ea:act w a=w.out a.ZV (step (w.Zb a.ZV)):=by unfold act;rw[if_neg nT,if_neg nT,if_pos e]
  rw[ea];rw[e]at q0;have cs:=Zag T h1 o wb a.ZV (YM a.ZV) YM na (w.Zb a.ZV) Xt w.Zo w.Yw w.ZA k1.Yp N1 A1.wd tb1 (ok.step _ hi);unfold Zx at cs;simp only[go_sem,e0,q0];refine VS.z (h1.size) [9] (.p 0 (.p 1 (.p 2 (.p 3 (.q 4 (.p 5 (.q 6 (.p 7 (.q 8 (.w 9 .nil)))))))))) mixed uj ?_;simp only[go_sem,Rn,q1,BS,l3,hb,Kz,ri];refine cs.use ?_;rintro v' g ⟨o',a',Jv,kk,N',W'⟩;simp only[go_sem];exact⟨o',Jv,YM,(YQ k1).trans (YQ kk),A1.Yt kk N' W'⟩
 ·-- a letter
  have ea:act w a=pick w a.at' (decide (a.ZR≠5)) (decide (a.ZR=6)):=by unfold act;rw[if_neg nT,if_neg nT,if_neg nT,if_pos e]
  rw[ea];have cs:=Zah T h1 o wb YM Xt w a.at' (decide (a.ZR≠5)) (decide (a.ZR=6)) k1.Yp A1 ok.to (by have:=ok.room;omega) (fun j hj=>by have:=ok.Zf j hj;omega);unfold Zx at cs;rcases e with e|e|e
  all_goals
   rw[e]at q0 cs ⊢;rw[e]at e0;simp only[go_sem,e0,q0,q2];refine cs.use ?_;rintro v' g ⟨o',Jv,kk,A'⟩;simp only[go_sem];exact⟨o',Jv,YM,(YQ k1).trans kk,A'⟩
 ·-- all Zee
  have ea:act w a=w.Zo.foldl Q0 { w with Zo:=[] }:=by unfold act;rw[if_neg nT,if_neg nT,if_neg nT,if_neg nT,if_pos e]
  rw[ea];rw[e]at q0;have Y5:=ok.room;obtain⟨pf,cf,hf,hfc⟩:=Rz A1.wd.Zo;have Rf:=R1.Zo;rw[hf]at Rf;obtain⟨g2,w2,W2,k2⟩:=A1.wd.D8 (fl':=[]) (v:=U Y 0 0) (Kp.refl k1.Yp (fun t=>t=.Zo)) ⟨[],rfl,XC.nil _ _ _ _ _,fun x hx=>by cases hx⟩ (R1.BR (U Y 0 0) rfl);have A2:QD o g2 wb YM { Xt with Zo:=U Y 0 0 } { w with Zo:=[] }:=A1.Zd0 k2 (by rintro t rfl;rfl) W2;have L2:WH o .Zo g2 (U pf w.Zo.length cf) w.Zo:=by rw[<-hf];exact A1.wd.Zo.Ze k2 Hy
  have K2:Kp SW o h o g2:=(YQ k1).trans (YQ k2);simp only[go_sem,e0,q0,Rf,BS,w2];refine VS.Yk (fun F g=>F 0=aw (X ⟨wb,0,Y⟩)/\F 118=U pf w.Zo.length cf/\F 119=W O w.Zo.length/\∃(j:Nat) (o':Ow),j<=w.Zo.length/\F 120=W O j/\Kp SW o h o' g/\QD o' g wb YM { Xt with Zo:=U Y 0 0 } ((w.Zo.take j).foldl Q0 { w with Zo:=[] })/\WH o' .Zo g (U pf w.Zo.length cf) w.Zo)
   (fun F _=>w.Zo.length-(vi (F 120)).toNat) rfl ⟨rfl,rfl,rfl,0,o,bG _,rfl,K2,A2,L2⟩ ?_
  rintro F3 g3 ⟨f0,f118,f119,j,o3,hj,f120,K3,A3,L3⟩;by_cases ZS:j<w.Zo.length
  .have Z7:(j:Int)<w.Zo.length:=nT;obtain⟨v,b3,ZIy,c3,hv,hvc,hb3,Zh6,iv3⟩:=mY L3 j ZS;simp only[Value.slice.injEq]at hv;obtain⟨rfl,_,rfl⟩:=hv;obtain⟨l,hl⟩:=ZN (w.Zo[j]);rw[<-hl]at Zh6 iv3;have mG:l∈w.Zo:=by rw[hl];exact b6 ZS
   obtain⟨pw,cw,rfl⟩:=iv3.ZO;obtain⟨g4,Hw⟩:=ZN (g3.push (ab (XN l (U pw (H l.vs) cw)).toArray 134):Hp);have k4:Kp WL o3 g3 o3 g4:=by rw[Hw];exact Yu K3.Yp _
   have x6:Ya o3 g4 g3.size (ab (XN l (U pw (H l.vs) cw)).toArray 134):=⟨K3.Yp _ (ao _),by rw[Hw];exact Zc⟩
   have e4:=Hw.symm;have r6:rd g4 ⟨g3.size,0,Y⟩ 14=X (XN l (U pw (H l.vs) cw)):=Zz x6.2 rfl;obtain⟨wj,hwj⟩:=ZN ((w.Zo.take j).foldl Q0 { w with Zo:=[] });rw[<-hwj]at A3;have XE:(w.Zo.take (j+1)).foldl Q0 { w with Zo:=[] } = Q0 wj l:=by
    rw[Y1 _ j ZS,<-hl,cp,<-hwj];rfl
   have cc:=BW T g4 o3 wb YM _ wj l (U pw (H l.vs) cw) k4.Yp (A3.Zn k4) (iv3.Ze k4) (ok.to l mG) (fun i hi=>by
    have h1:=dq i (w.Zo.take j) { w with Zo:=[] };rw[<-hwj,a5]at h1;have h2:=ok.Zf i hi;have h3:=ok.room;have h4:(({ w with Zo:=[] }:Wd).Zb i).Zf.length=(w.Zb i).Zf.length:=rfl;omega)
   unfold Zx XN at cc;unfold XN at e4 r6 Zh6;simp only[go_sem,f0,f118,f119,f120,Z7,Zh6,e4,r6];refine cc.use ?_;rintro v' g5 ⟨o5,k5,A5⟩;simp only[go_sem,f120];unfold XU;refine⟨⟨f0,f118,f119,j+1,o5,ZS,rfl,(K3.trans (YQ k4)).trans (YQ k5),by rw[XE];exact A5,(L3.Ze k4 (fun q=>q.elim)).Ze k5 (by rintro⟨_,e⟩;cases e)⟩,?_⟩;simp only[vi,Zq,↓reduceIte,f120];omega
  .have Xv:¬(j:Int)<w.Zo.length:=nT;obtain rfl:j=w.Zo.length:=nT;rw[am (ao _)]at A3;simp only[go_sem,f119,f120,Xv];exact⟨o3,_,YM,K3,A3⟩
 ·-- a ZA3
  have ea:act w a=w.set a.ZV (XF a.ZV (w.Zb a.ZV) a.Ze):=by unfold act;rw[if_neg nT,if_neg nT,if_neg nT,if_neg nT,if_neg nT,if_pos e]
  rw[ea];rw[e]at q0;obtain⟨n,C0⟩:=ZN (w.Zb a.ZV);have Zh7:=ok.data _ hi;rw[<-C0]at N1 Zh7;have P1:=ZP N1.ZW.2 N1.pt.store.len;have P1u:=P1.up;simp only[go_sem,e0,q0];refine VS.mono (N:=fun F' g'=>Zj h1.size h1 g'/\F' 0=aw (X ⟨wb,0,Y⟩)/\F' 3=aw (X ⟨h.size,0,Y⟩)/\F' 7=aw (X ⟨YM a.ZV,0,Y⟩)) ?_ ?_ (fun _ _ _ h=>h) (fun _ _ h=>h)
  .refine VS.z (h1.size) [] (.p 0 (.p 1 (.p 2 (.q 3 (.p 4 (.q 5 (.p 6 (.q 7 (.p 8 .nil))))))))) mixed uj ?_;simp only[go_sem,Rn,q1,BS,l3,hb,Kz,ri]
   try exact Zj.refl _ _
  rintro F2 g2 ⟨b2,f0,f3,f7⟩;have Nw:=ZX k1.Yp b2;have A2:=A1.Zn Nw;have N2:=N1.Zn Nw;have K2:=k1.trans Nw;have y3:=x3.Ze Nw;have P2:=ZP N2.ZW.2 N2.pt.store.len;have mX:=P2.up;have Ug:=Za N2.ZW.2;clear P1 P1u
  cases hu:n.up with
  | false=>
   rw[hu]at mX;have e1:XF a.ZV (w.Zb a.ZV) a.Ze=w.Zb a.ZV:=by unfold XF;rw[<-C0,if_neg (by rw[hu];simp)]
   rw[e1,dm];simp only[go_sem,f7,mX];exact⟨o,Xt,YM,YQ K2,A2⟩
  | true=>
   rw[hu]at mX;obtain⟨pt,ct,uG⟩:=N2.pt.data.1.ZO;have uG:na.data=U pt (H n.data) ct:=uG;have P2t:=P2.tape;rw[uG]at P2t;have ND:=N2.pt.data;rw[uG]at ND;obtain⟨L,Z,E,hLZ⟩:∃L Z E,Ot n.data n.YS a.Ze=(L,Z,E):=⟨_,_,_,rfl⟩
   have q3:hc g2 ⟨h.size,3,Y⟩=X (W O a.Ze):=Zl y3.2;have l3:=Za y3.2;have call:∀G,Zj g2.size g2 G->Zd a8 T 53 #[a0 #[U pt (H n.data) ct,W O n.YS],W O a.Ze] G fun v' h'=>Zj G.size G h'/\mi G.size h' v' (L,Z,E):=fun G hG=>by
    rw[<-hLZ];exact xQ T G _ n.YS a.Ze n.data (ND.bs.Yz hG) nT
   have wT:∀(G:Hp) (k:Nat) (m:Int) (p:Option Addr) (L c:Nat),G[k]? = X (ab [U Y 0 0,W O 0].toArray 99)->wr G ⟨k,0,Y⟩ [U p L c,W O m]=X (G.setIfInBounds k (ab [U p L c,W O m].toArray 99)):=fun G k m p L c hx=>by
    rw[Yd hx 0 _];rfl
   rw[jK a.ZV (w.Zb a.ZV) a.Ze L Z E (by rw[<-C0];exact hu) (by rw[<-C0];exact hLZ)];simp only[go_sem,f7,mX];refine VS.mono (N:=fun F' g'=>F' 0=aw (X ⟨wb,0,Y⟩)/\F' 3=aw (X ⟨h.size,0,Y⟩)/\Zj g2.size g2 g'/\∃kt p c,F' 8=aw (X ⟨kt,0,Y⟩)/\g'[kt]? = X (ab [U p (H L) c,W O Z].toArray 99)/\PT o g' (U p (H L) c) L) ?_ ?_ (fun _ _ _ h=>h) (fun _ _ h=>h)
   .refine VS.z (g2.size) [6,11] (.p 0 (.p 1 (.p 2 (.q 3 (.p 4 (.q 5 (.or 6 (.p 7 (.p 8 (.p 9 (.s 10 (.w 11 (.p 12 .nil)))))) (.s 10 (.w 6 (.p 7 (.p 8 (.p 9 (.w 11 (.p 12 .nil)))))))))))))) mixed uj ?_;simp only[go_sem,f0,f3,f7,P2t,q3,Ug,l3]
    repeat' (first|with_reducible exact Zj.refl _ _|with_reducible exact Zj.push nT _|with_reducible refine And.intro ?_ ?_)
    all_goals first
     | (refine (call g2 (Zj.refl _ _)).use ?_
        rintro _ g5 ⟨b5,p5,c5,L',Z',E',hz,rfl,bs,hcc,hbl⟩
        cases hz
        have s5:=b5.size;have kk:=ZX K2.Yp b5;have im:PT o g5 (U p5 (H L) c5) L:=FL kk.Yp bs hcc fun b hb=>⟨K2.Yp b (hbl b hb).1,(hbl b hb).2⟩
        simp only[go_sem,b5];exact⟨f0,f3,_,_,_,rfl,Zc,im.Ze (Yu kk.Yp _)⟩)
     | (refine (call (g2.push (ab _ 99)) (Zj.push (ao _) _)).use ?_
        rintro _ g5 ⟨b5,p5,c5,L',Z',E',hz,rfl,bs,hcc,hbl⟩
        cases hz
        have B5:Zj g2.size g2 g5:=(Zj.push (ao _) _).trans (b5.mono uK);have xA:=b5.get (k:=g2.size) uK Zc;have PC:=wT _ _ Z p5 (H L) c5 xA;have zA:=Za xA;have kk:=ZX K2.Yp B5;have im:PT o g5 (U p5 (H L) c5) L:=FL kk.Yp bs hcc fun b hb=>⟨K2.Yp b (by have:=(hbl b hb).1;rw[cu]at this;omega),(hbl b hb).2⟩
        have ks:=dn kk.Yp im zA (fun b hb=>by have:=(hbl b hb).1;rw[cu]at this;omega) (ab [U p5 (H L) c5,W O Z].toArray 99);simp only[go_sem,B5,PC,zA];exact⟨f0,f3,_,_,_,rfl,ZQ xA,ks⟩)
   clear f0 f3 f7;rintro F3 g3 ⟨f0,f3,b3,kt,p3,c3,f8,yt,im3⟩;have TQ:=ZX K2.Yp b3;have K3:=K2.trans TQ;have A3:=A2.Zn TQ;have z3:=y3.Ze TQ;obtain⟨b,off,c,hn,hc5,hb,PH⟩:=TH A3.wd;have R3:=XP A3.wd.ZW.2;have Rn:=R3.Zb;rw[hn]at Rn;have BS:=Za A3.wd.ZW.2;have q1:hc g3 ⟨h.size,1,Y⟩=X (W O a.ZV):=Zl z3.2;have l3:=Za z3.2;have rt:rd g3 ⟨kt,0,Y⟩ 2=X [U p3 (H L) c3,W O Z]:=Zz yt rfl;have lt:=Za yt;have cb:Zd a8 T 47 #[W O a.ZV,a0 #[U p3 (H L) c3,W O Z],a0 #[W O 0,W O 0,U Y 0 0]] g3 _:=FI T g3 o wb a.ZV (U p3 (H L) c3) L Z (U Y 0 0) JJ K3.Yp im3 (Im.nil _ _ _ _);refine VS.z (g3.size) [12] (.p 0 (.p 1 (.p 2 (.q 3 (.p 4 (.q 5 (.p 6 (.q 7 (.q 8 (.p 9 (.s 10 (.p 11 (.w 12 .nil))))))))))))) mixed uj ?_;simp only[go_sem,f0,f3,f8,Rn,q1,rt,BS,l3,lt,hb,Kz];refine cb.use ?_;rintro _ g4 ⟨nb,o4,a4,rfl,b4,k4,N4⟩;have W4:=A3.wd.Ze k4 (by rintro t (rfl|rfl)<;>simp[Tg.of]);obtain⟨b',Zv7,c',g5,NH,w5,k5,W5⟩:=D9 k4.Yp W4 a.ZV nb hi;rw[hn]at NH;simp only[Value.slice.injEq,Option.some.injEq,Addr.mk.injEq,true_and,and_true]at NH;obtain⟨⟨rfl,rfl⟩,rfl⟩:=NH;have hb4:b<g4.size:=bf hb b4.size;have N5:=N4.Ze k5 (by rintro t rfl e;cases e);have K5:Kp SW o h o4 g5:=((YQ K3).trans (YQ k4)).trans (YQ k5);have z5:=(z3.Ze k4).Ze k5;unfold Zx at w5 ⊢;simp only[go_sem,b4,w5,hb4,Kz];have R5:=XP W5.ZW.2;have R5n:=R5.Zb;rw[hn]at R5n;obtain⟨b'',ZA6,c'',Zh8,_,hb5,Zv8⟩:=TH W5;rw[hn]at Zh8;simp only[Value.slice.injEq,Option.some.injEq,Addr.mk.injEq,true_and,and_true]at Zh8;obtain⟨⟨rfl,rfl⟩,rfl⟩:=Zh8;have ri5:=Zv8 a.ZV hi;simp only[↓reduceIte]at ri5;unfold Zx at ri5;have jJ:=Za W5.ZW.2;have q15:hc g5 ⟨h.size,1,Y⟩=X (W O a.ZV):=Zl z5.2;have l35:=Za z5.2;have Mx:=Za N5.ZW.2;obtain⟨g6,w6,N6,k6⟩:=Yh.write (n:={ Yl a.ZV true L Z JJ with up:=false }) (a:=a4) { N5.pt with } K5.Yp N5.ZW ((XH N5.ZW.2 N5.pt.store.len).up false);refine VS.z (g5.size) [10] (.p 0 (.p 1 (.p 2 (.q 3 (.p 4 (.q 5 (.p 6 (.q 7 (.p 8 (.p 9 (.w 10 .nil))))))))))) mixed uj ?_;simp only[go_sem,f0,f3,R5n,q15,jJ,l35,hb5,Kz,ri5,Mx,w6];have kk:Kp (fun t=>t=.Zb\/t.of=X a.ZV) o g3 o4 g6:=((k4.mono fun t q=>by rcases q with rfl|rfl<;>exact .inr rfl).trans (k5.mono fun t q=>.inl q)).trans (k6.mono fun t q=>.inr (by rw[q];rfl));exact⟨o4,Xt,_,K5.trans (YQ k6),A3.fresh kk N6 (W5.Ze k6 (by rintro t rfl;simp[Tg.of]))⟩
 ·-- a start
  have ea:act w a=w.set a.ZV (started a.ZV (w.Zb a.ZV)):=by unfold act;rw[if_neg nT,if_neg nT,if_neg nT,if_neg nT,if_neg nT,if_neg nT]
  rw[ea];rw[e]at q0;obtain⟨n,C0⟩:=ZN (w.Zb a.ZV);have Zh7:=ok.data _ hi;rw[<-C0]at N1 Zh7;simp only[go_sem,e0,q0];refine VS.mono (N:=fun F' g'=>Zj h1.size h1 g'/\F' 0=aw (X ⟨wb,0,Y⟩)/\F' 3=aw (X ⟨h.size,0,Y⟩)/\F' 10=aw (X ⟨YM a.ZV,0,Y⟩)) ?_ ?_ (fun _ _ _ h=>h) (fun _ _ h=>h)
  .refine VS.z (h1.size) [] (.p 0 (.p 1 (.p 2 (.q 3 (.p 4 (.q 5 (.p 6 (.q 7 (.p 8 .nil))))))))) mixed uj ?_;simp only[go_sem,Rn,q1,BS,l3,hb,Kz,ri]
   try exact Zj.refl _ _
  rintro F2 g2 ⟨b2,f0,f3,f10⟩;have Nw:=ZX k1.Yp b2;have A2:=A1.Zn Nw;have N2:=N1.Zn Nw;have K2:=k1.trans Nw;have io:=tb1.Ze Nw;have y3:=x3.Ze Nw;have P2:=ZP N2.ZW.2 N2.pt.store.len;have mX:=P2.up;have Ug:=Za N2.ZW.2
  cases hu:n.up with
  | true=>
   rw[hu]at mX;have e1:started a.ZV (w.Zb a.ZV)=w.Zb a.ZV:=by unfold started;rw[<-C0,if_pos hu]
   rw[e1,dm];simp only[go_sem,f10,mX];exact⟨o,Xt,YM,YQ K2,A2⟩
  | false=>
   rw[hu]at mX;obtain⟨pt,ct,uG,hct⟩:=N2.pt.data.1.fits;have uG:na.data=U pt (H n.data) ct:=uG;have P2t:=P2.tape;rw[uG]at P2t;have ND:=N2.pt.data;rw[uG]at ND;obtain⟨D,hD⟩:=ZN (Fw n.data n.YS);obtain⟨Z,hZ⟩:=ZN (jw n.data n.YS);obtain⟨T7,Znd⟩:=ZN (if YX D Z then (TE D).1 else JJ);have es:started a.ZV (w.Zb a.ZV)=Yl a.ZV true D Z T7:=by unfold started;rw[<-C0,if_neg (by rw[hu];simp),Znd,hD,hZ]
   rw[es];have hDl:(H D)<=1000000:=by
    rw[hD];unfold Fw;split
    .rw[a5];omega
    .simp
   simp only[go_sem,f10,mX,P2t];refine (qU T g2 _ n.YS n.data ND.bs hct nT io.tk).use ?_;rintro v3 g3 ⟨R3,b3⟩;obtain⟨p3,c3,E3,rfl,o3⟩:∃p c E,v3=.tuple [a0 [U p (H D) c,W O Z].toArray,W O E].toArray/\Yx g2.size 5 g3 (U p (H D) c) D:=by
    obtain⟨r,k,E,w',rfl,ob,hk,hr⟩:=R3;have h1:(if E=0 then n.data.take k else [])=D:=by
     rw[hD];unfold Fw;split at hr
     .rename_i q;rw[if_pos hr.1,if_pos q,Nj hr.2]
     .rename_i q;rw[if_neg (show ¬E=0 by omega),if_neg q]
    have h2:(if E=0 then (if (k:Int)<n.YS then (k:Int) else n.YS) else 0)=Z:=by
     rw[hZ];unfold jw;split at hr
     .rename_i q;rw[if_pos hr.1,if_pos q,Nj hr.2]
     .rename_i q;rw[if_neg (show ¬E=0 by omega),if_neg q]
    rw[h1]at ob;rw[h2];obtain⟨p,c,rfl,_⟩:=ob.open;exact⟨p,c,E,rfl,ob⟩
   have TQ:=ZX K2.Yp b3;obtain⟨g4,Hw⟩:=ZN (g3.push (ab [U p3 (H D) c3,W O Z].toArray 99):Hp);have k4:Kp WL o g2 o g4:=by rw[Hw];exact TQ.push _
   have x11:Ya o g4 g3.size (ab [U p3 (H D) c3,W O Z].toArray 99):=⟨TQ.Yp _ (ao _),by rw[Hw];exact Zc⟩
   have e4:=Hw.symm;have iD4:PT o g4 (U p3 (H D) c3) D:=by rw[Hw];exact PT.Ze ⟨Im.WV o3.Zm (fun b hb=>K2.Yp b hb),o3.byte⟩ (Yu TQ.Yp _)
   have r11:rd g4 ⟨g3.size,0,Y⟩ 2=X [U p3 (H D) c3,W O Z]:=Zz x11.2 rfl;have tb4:=io.Ze k4;simp only[go_sem,e4,r11];refine (Fu T g4 _ Z D iD4.bs nT tb4.tk).use ?_;rintro v5 g5 ⟨R5,b5⟩;obtain⟨p5,c5,E5,K5',rfl,o5⟩:∃p c E K,v5=.tuple [a0 [W O T7.p.r,W O T7.p.n,U p (H T7.l) c].toArray,W O K,W O E].toArray/\TO o g5 (U p (H T7.l) c) T7.l:=by
    obtain⟨r,k,E,w',rfl,ob,hk,_,hr⟩:=R5;have h1:r=T7:=by
     rw[Znd];split at hr
     .rw[if_pos aab,Nj hr.2]
     .rw[if_neg aab];exact hr.2.1
    rw[h1]at ob ⊢;have im:TO o g5 w' T7.l:=Im.WV ob.Zm (fun b hb=>k4.Yp b hb);obtain⟨p,c,rfl⟩:=im.ZO;exact⟨p,c,E,_,rfl,im⟩
   have D3:=ZX k4.Yp b5;obtain⟨g6,LS⟩:=ZN (g5.push (ab [W O T7.p.r,W O T7.p.n,U p5 (H T7.l) c5].toArray 104):Hp);have k6:Kp WL o g4 o g6:=by rw[LS];exact D3.push _
   have x13:Ya o g6 g5.size (ab [W O T7.p.r,W O T7.p.n,U p5 (H T7.l) c5].toArray 104):=⟨D3.Yp _ (ao _),by rw[LS];exact Zc⟩
   have e6:=LS.symm;have K6:Kp WL o h o g6:=(K2.trans k4).trans k6;have iD6:=iD4.Ze k6;have iV6:TO o g6 (U p5 (H T7.l) c5) T7.l:=by rw[LS];exact o5.Ze (Yu D3.Yp _)
   have A6:=(A2.Zn k4).Zn k6;have z3:=(y3.Ze k4).Ze k6;have z11:=x11.Ze k6;clear hn hc5 hb PH Rn BS q1 l3 ri;obtain⟨b,off,c,hn,hc5,hb,PH⟩:=TH A6.wd;have R6:=XP A6.wd.ZW.2;have Rn:=R6.Zb;rw[hn]at Rn;have BS:=Za A6.wd.ZW.2;have q1:hc g6 ⟨h.size,1,Y⟩=X (W O a.ZV):=Zl z3.2;have l3:=Za z3.2;have rt:rd g6 ⟨g3.size,0,Y⟩ 2=X [U p3 (H D) c3,W O Z]:=Zz z11.2 rfl;have lt:=Za z11.2;have ra:rd g6 ⟨g5.size,0,Y⟩ 3=X [W O T7.p.r,W O T7.p.n,U p5 (H T7.l) c5]:=Zz x13.2 rfl;have la:=Za x13.2;have cb:=FI T g6 o wb a.ZV (U p3 (H D) c3) D Z (U p5 (H T7.l) c5) T7 K6.Yp iD6 iV6;simp only[go_sem,e6];refine VS.z (g6.size) [12] (.p 0 (.p 1 (.p 2 (.q 3 (.p 4 (.q 5 (.p 6 (.q 7 (.q 8 (.q 9 (.s 10 (.p 11 (.w 12 .nil))))))))))))) mixed uj ?_;simp only[go_sem,f0,f3,Rn,q1,rt,ra,BS,l3,lt,la,hb,Kz];refine cb.use ?_;rintro _ g7 ⟨nb,o7,a7,rfl,b7,k7,N7⟩;have W7:=A6.wd.Ze k7 (by rintro t (rfl|rfl)<;>simp[Tg.of]);obtain⟨b',Zv7,c',g8,NH,w8,k8,W8⟩:=D9 k7.Yp W7 a.ZV nb hi;rw[hn]at NH;simp only[Value.slice.injEq,Option.some.injEq,Addr.mk.injEq,true_and,and_true]at NH;obtain⟨⟨rfl,rfl⟩,rfl⟩:=NH;have hb7:b<g7.size:=bf hb b7.size;have N8:=N7.Ze k8 (by rintro t rfl e;cases e);have K8:Kp SW o h o7 g8:=((YQ K6).trans (YQ k7)).trans (YQ k8);unfold Zx at w8 ⊢;simp only[go_sem,b7,w8,hb7,Kz];have kk:Kp (fun t=>t=.Zb\/t.of=X a.ZV) o g6 o7 g8:=(k7.mono fun t q=>by rcases q with rfl|rfl<;>exact .inr rfl).trans (k8.mono fun t q=>.inl q);exact⟨o7,Xt,_,K8,A6.fresh kk N8 W8⟩
def FP(YM:Nat->Nat)(j:Nat):List ae:=(cA j).map fun i=>Zx (YM i)
theorem jQ(YM:Nat->Nat)(j:Nat):FP YM (j+1)=FP YM j++[Zx (YM j)]:=by
 unfold FP;rw[cx,cy];rfl
theorem jR(YM:Nat->Nat)(j nb:Nat):FP (fun i=>if i=j then nb else YM i) j=FP YM j:=by
 unfold FP;apply List.map_congr_left;intro i hi;rw[bh]at hi;simp only;rw[if_neg nT]
set_option maxHeartbeats 4000000 in
theorem Zaq(T:bC)(h:Hp)(o:Ow)(d:Vx o h):
  Zd a8 T 34 #[] h fun v' h'=>∃wb YM o' Xt,v'=Zx wb/\Kp SW o h o' h'/\QD o' h' wb YM Xt Ur:=by
 refine Zd.XT [] Tryz.func34 ?_;obtain⟨wb,Zh9⟩:=ZN (h.size);obtain⟨g1,NO⟩:∃g1:Hp,g1=h.push (ab (X4 (fun _=>0) ⟨U Y 0 0,U Y 0 0,U Y 0 0⟩).toArray 96):=⟨_,rfl⟩
 have e1:=NO.symm;unfold X4 at e1;simp only at e1;have k1:Kp SW o h (QS o wb .world) g1:=by rw[NO,Zh9];exact ((Kp.refl d SW).push _).Oh (ao _) uK trivial
 have B1:WJ (QS o wb .world) .world g1 wb (ab (X4 (fun _=>0) ⟨U Y 0 0,U Y 0 0,U Y 0 0⟩).toArray 96):=⟨XR,by rw[NO,Zh9];exact Zc⟩
 simp only[go_sem,e1];rw[<-Zh9];refine VS.Yk (fun F g=>F 1=aw (X ⟨wb,0,Y⟩)/\∃(j:Nat) (o':Ow) (YM:Nat->Nat) (v:ae),j<=5/\F 5=W O j/\Kp SW o h o' g/\WJ o' .world g wb (ab (X4 (fun _=>0) ⟨v,U Y 0 0,U Y 0 0⟩).toArray 96)/\XC o' .Zb 97 1 g v j (FP YM j)/\∀i,i<j->∃a,Z5 o' g wb i (YM i) a (Yl i true [] 0 JJ))
  (fun F _=>5-(vi (F 5)).toNat) rfl ⟨rfl,0,_,fun _=>0,U Y 0 0,nT,rfl,k1,B1,XC.nil _ _ _ _ _,fun i hi=>by omega⟩ ?_
 clear B1 k1 e1 NO;rintro F2 g2 ⟨f1,j,o2,YM,v,hj,f5,K2,B2,O2,N2⟩;by_cases ZS:j<5
 .have Z7:(j:Int)<5:=nT;obtain⟨pv,cv,rfl,_⟩:=O2.ZO;have R2:=XP B2.2;have Rn:=R2.Zb;simp only at Rn;have BS:=Za B2.2;have cb:Zd a8 T 47 #[W O j,a0 #[U Y 0 0,W O 0],a0 #[W O 0,W O 0,U Y 0 0]] g2 _:=FI T g2 o2 wb j (U Y 0 0) [] 0 (U Y 0 0) JJ K2.Yp ⟨Im.nil _ _ _ _,fun x hx=>by cases hx⟩ (Im.nil _ _ _ _);simp only[go_sem,f1,f5,Z7];refine VS.z (g2.size) [10,13] (.p 0 (.p 1 (.p 2 (.p 3 (.q 4 (.p 5 (.p 6 (.p 7 (.s 8 (.s 9 (.w 10 (.p 11 (.p 12 (.w 13 .nil)))))))))))))) mixed uj ?_;simp only[go_sem,f1,f5,Rn,BS];refine cb.use ?_;rintro _ g3 ⟨nb,o3,a3,rfl,b3,k3,N3⟩;unfold Zx;simp only[go_sem,b3];obtain⟨g4,Hw⟩:=ZN (g3.push (ab [Zx nb].toArray 97):Hp);have e4:=Hw.symm;unfold Zx at e4;rw[e4];have k4:Kp WL o3 g3 o3 g4:=by rw[Hw];exact Yu k3.Yp _
  have B4:=(B2.Ze k3 (by rintro (e|e)<;>cases e)).Ze k4 (fun q=>q);have O4:=(O2.Ze k3 (by rintro (e|e)<;>cases e)).Ze k4 (fun q=>q);have N4:=N3.Zn k4;have M4:∀i,i<j->∃a,Z5 o3 g4 wb i (YM i) a (Yl i true [] 0 JJ):=fun i hi=>by
   obtain⟨a,N⟩:=N2 i hi;refine⟨a,(N.Ze k3 ?_).Zn k4⟩;rintro t (rfl|rfl) e
   .have:=Option.some.inj e;omega
   .have:=Option.some.inj e;omega
  have x4:g4[g3.size]? = X (ab [Zx nb].toArray 97):=by rw[Hw];exact Zc
  have src:Sl 1 g4 (U (X ⟨g3.size,0,Y⟩) 1 1) 1 [Zx nb]:=⟨_,1,rfl,rfl,fun _=>⟨g3.size,0,rfl,fun i hi=>by
   rw[Zl x4,YW,Nat.zero_add];exact bQ hi⟩⟩
  refine QT (E:=97) (n:=1) (bytes:=8) (k:=1) ZkV Tryz.underlying93 Zsr Zst rfl Zss O4 k4.Yp src rfl nT nT ?_;intro v' o5 g5 O5 k5 _;have k5:Kp (fun u=>u=.Zb) o3 g4 o5 g5:=k5;obtain⟨p5,c5,rfl,_⟩:=O5.ZO;have B5:=B4.Ze k5 Hy;have w5:=(XP B5.2).ZhD (U p5 (j+1) c5) rfl;have jJ:=Za B5.2;obtain⟨g6,LS⟩:∃g6,g6=g5.setIfInBounds wb (ab (X4 (fun _=>0) ⟨U p5 (j+1) c5,U Y 0 0,U Y 0 0⟩).toArray 96):=⟨_,rfl⟩
  simp only at w5;rw[<-LS]at w5;have k6:Kp (fun t=>t=.world) o5 g5 o5 g6:=by rw[LS];exact (Kp.refl k5.Yp (fun t=>t=.world)).set B5.1 rfl _
  have B6:WJ o5 .world g6 wb (ab (X4 (fun _=>0) ⟨U p5 (j+1) c5,U Y 0 0,U Y 0 0⟩).toArray 96):=⟨B5.1,by rw[LS];exact ZQ B5.2⟩
  have K6:Kp SW o h o5 g6:=(((K2.trans (YQ k3)).trans (YQ k4)).trans (YQ k5)).trans (YQ k6);simp only[go_sem,w5,jJ,f5];unfold XU;refine⟨⟨f1,j+1,o5,(fun i=>if i=j then nb else YM i),U p5 (j+1) c5,ZS,rfl,K6,B6,?_,fun i hi=>?_⟩,?_⟩
  .rw[jQ,jR];simp only[↓reduceIte];exact O5.Ze k6 Hy
  .by_cases e:i=j
   .subst e;refine⟨a3,?_⟩;simp only[↓reduceIte];exact (N4.Ze k5 (by rintro t rfl e;cases e)).Ze k6 (by rintro t rfl e;cases e)
   .obtain⟨a,N⟩:=M4 i nT;refine⟨a,?_⟩;simp only[if_neg e];exact (N.Ze k5 (by rintro t rfl e;cases e)).Ze k6 (by rintro t rfl e;cases e)
  .simp only[vi,Zq,↓reduceIte,f5];omega
 .have Xv:¬(j:Int)<5:=nT;obtain rfl:j=5:=nT;simp only[go_sem,f1,f5,Xv];exact⟨wb,YM,o2,_,rfl,K2,⟨B2,O2,⟨[],rfl,XC.nil _ _ _ _ _,fun x hx=>by cases hx⟩,XC.nil _ _ _ _ _⟩,fun i hi=>N2 i hi⟩
theorem jS(T:bC)(h:Hp)(u:ae)(l:List Cm)(s:Ts Qo.C 5 h u l)(hl:(H l)<=2199023255552):
  Zd a8 T 36 #[u] h fun v' h'=>Qv h.size 24 Qo.C 5 h' v' l/\Zj h.size h h':=by
 obtain⟨p,c,rfl,WE⟩:=Q2 s;refine Zd.XT [_] Tryz.func36 ?_
 cases p with
 | none=>
  have:l=[]:=by
   cases l with
   | nil=>rfl
   | cons x l=>obtain⟨b,o,hp,_⟩:=WE uK;cases hp
  subst this;simp only[go_sem];exact Qv.nil _ _ _ _ _
 | some a=>
  simp only[go_sem];refine Rb (E:=24) (B:=h.size) (n:=5) (bytes:=40) aB Tryz.underlying55 Zgy xm rfl ZkO (fun _=>rfl) (Qv.EH _ _ Qo.C 5 _ _) uK (s.Yz (Zj.push (ao _) _)) Ig nT ?_;intro v' h' ho hb _;simp only[go_sem];exact⟨by simpa using ho,(Zj.push (ao _) _).trans hb⟩
structure Raw where
 k:Int
 n:Int
 a:Int
 b:Int
 data:List Nat
def Raw.ac(x:Raw):Ac:=⟨x.k,x.n.toNat,x.a.toNat,x.b,x.data⟩
def Raw.err(x:Raw):Int:=Wl x.k x.n x.a x.b (H x.data)
def WD(x:Raw × ae):List ae:=FK x.1.k x.1.n x.1.a x.1.b x.2
def Uh:List Raw->Int
 | []=>0
 | x :: l=>if x.err≠0 then x.err else Uh l
def SY(l:List Raw):Int:=if 100000<(H l) then 1 else Uh l
theorem FQ(x:Raw × ae):(WD x).length=5:=rfl
theorem FS{l:List Raw}{j:Nat}(hj:j<(H l))(h0:∀x∈l.take j,x.err=0)(h1:l[j].err≠0):Uh l=l[j].err:=by
 induction l generalizing j with
 | nil=>simp at hj
 | cons y l ih=>
  cases j with
  | zero=>unfold Uh;rw[if_pos (by simpa using h1)];rfl
  | succ j=>
   unfold Uh;rw[if_neg (by simpa using h0 y uK)];exact ih (by simpa using hj) (fun x hx=>h0 x (by simp[hx])) (by simpa using h1)
theorem OL{l:List Raw}(h0:∀x∈l,x.err=0):Uh l=0:=by
 induction l with
 | nil=>rfl
 | cons y l ih=>unfold Uh;rw[if_neg (by simpa using h0 y uK)];exact ih fun x hx=>h0 x (by simp[hx])
theorem BZ{x:Raw}(h:x.err=0):(1<=x.k/\x.k<=9)/\(0<=x.n/\x.n<=4)/\(0<=x.a/\x.a<=1048576)/\(0<=x.b/\x.b<=100000)/\(H x.data)<=2000:=by
 unfold Raw.err Wl at h;by_cases c1:1<=x.k/\x.k<=9
 case neg=>rw[if_pos c1]at h;cases h
 rw[if_neg (by simpa using c1)]at h;by_cases c2:(Jh x.k/\¬(0<=x.n/\x.n<=4))\/(UZ x.k/\¬(0<=x.a/\x.a<=1048576))\/(x.k=8/\¬(0<=x.b/\x.b<=100000))
 .rw[if_pos c2]at h;cases h
 rw[if_neg c2]at h;by_cases c3:2000<(H x.data)
 .rw[if_pos c3]at h;cases h
 rw[if_neg c3]at h;by_cases c4:(¬Jh x.k/\x.n≠0)\/(¬UZ x.k/\x.a≠0)\/(x.k≠8/\x.b≠0)\/(x.k≠1/\0<(H x.data))
 .rw[if_pos c4]at h;cases h
 refine⟨c1,?_,?_,?_,nT⟩
 .by_cases q:Jh x.k
  .exact aq fun e=>c2 (.inl ⟨q,e⟩)
  .have:x.n=0:=aq fun e=>c4 (.inl ⟨q,e⟩);omega
 .by_cases q:UZ x.k
  .exact aq fun e=>c2 (.inr (.inl ⟨q,e⟩))
  .have:x.a=0:=aq fun e=>c4 (.inr (.inl ⟨q,e⟩));omega
 .by_cases q:x.k=8
  .exact aq fun e=>c2 (.inr (.inr ⟨q,e⟩))
  .have:x.b=0:=aq fun e=>c4 (.inr (.inr (.inl ⟨q,e⟩)));omega
def Xe(xs:List (Raw × ae)):List Raw:=xs.map (·.1)
def LX:Ow:=fun _=>Y
theorem FT(h:Hp):Vx LX h:=fun _ _=>rfl
theorem jT{S:Tg->Prop}{h h':Hp}{o':Ow}(k:Kp S LX h o' h'):Zj h.size h h':=
 ⟨k.size,fun b hb=>(k.Ze b hb fun t ht=>by cases ht).1⟩
def uH:List ae:=[W O 0,al false,al false,al false,al false,al false,U Y 0 0,W O 0,W O 0,W O 0,W O 0,W O 0,U Y 0 0]
def jU(w:Wd)(lv tv:ae):List ae:=[W O w.Zo.length,al (w.Zb 0).up,al (w.Zb 1).up,al (w.Zb 2).up,al (w.Zb 3).up,al (w.Zb 4).up,lv,W O (w.Yw 0),W O (w.Yw 1),W O (w.Yw 2),W O (w.Yw 3),W O (w.Yw 4),tv]
structure jV(h:Hp)(R:List ae)(w:Wd)(lv tv:ae)(vs:List ae):Prop where
 cells:R=jU w lv tv
 Zne:Ts (fun v=>[v]) 1 h lv vs
 each:az (fun v l=>Ts Qo.C 5 h v l) vs [(w.Zb 0).Zw,(w.Zb 1).Zw,(w.Zb 2).Zw,(w.Zb 3).Zw,(w.Zb 4).Zw]
 ZA:Ts Mu 5 h tv w.ZA
 ZII:az (fun v (l:List Cm)=>∃p c,v=U p (H l) c/\(H l)<=c) vs [(w.Zb 0).Zw,(w.Zb 1).Zw,(w.Zb 2).Zw,(w.Zb 3).Zw,(w.Zb 4).Zw]
def VG(B:Nat)(h:Hp)(R:List ae)(w:Wd)(lv tv:ae)(vs:List ae):Prop:=∀G:Hp,(∀b,B<=b->b<h.size->G[b]? = h[b]?)->jV G R w lv tv vs
theorem VG.at{B:Nat}{h:Hp}{R:List ae}{w:Wd}{lv tv:ae}{vs:List ae}(s:VG B h R w lv tv vs):jV h R w lv tv vs:=s h fun _ _ _=>rfl
theorem VG.Yz{B:Nat}{h h':Hp}{R:List ae}{w:Wd}{lv tv:ae}{vs:List ae}(s:VG B h R w lv tv vs)(b:Zj h.size h h'):VG B h' R w lv tv vs:=
 fun G hG=>s G fun k h1 h2=>by rw[hG k h1 (bf h2 b.size)];exact b.block k h2
theorem VG.set{B:Nat}{h:Hp}{R:List ae}{w:Wd}{lv tv:ae}{vs:List ae}(s:VG B h R w lv tv vs)(hk:k<B)(x:Obj):VG B (h.setIfInBounds k x) R w lv tv vs:=
 fun G hG=>s G fun b h1 h2=>by rw[hG b h1 (by simpa using h2),br,if_neg nT]
def Cb(B:Nat)(h':Hp)(v':ae)(l:List Raw):Prop:=
 if SY l=0 then ∃R lv tv vs,v'=.tuple #[a0 R.toArray,W O 0]/\VG B h' R (Mt (l.map Raw.ac)) lv tv vs
 else v'=.tuple #[a0 uH.toArray,W O (SY l)]
theorem Cc{h:Hp}{v:ae}{l:List (Raw × ae)}(s:Ts WD 5 h v l):∃p c,v=U p (H l) c/\(l≠[]->∃b o,p=X ⟨b,o,Y⟩/\b<h.size/\∀i (hi:i<(H l)),rd h ⟨b,o+i*5,Y⟩ 5=X (WD l[i])):=by
 obtain⟨p,c,hv,hh⟩:=s.open FQ Iw;refine⟨p,c,hv,fun Y4=>?_⟩;obtain⟨b,o,h1,h2,h3⟩:=hh Y4;exact⟨b,o,h1,h2,fun i hi=>(h3 i hi).rd (by simp[WD,FK]) rfl⟩
def dz(w:Wd)(j:Nat)(lv tv:ae):List ae:=[W O w.Zo.length,al (if 0<j then (w.Zb 0).up else false),al (if 1<j then (w.Zb 1).up else false),al (if 2<j then (w.Zb 2).up else false),al (if 3<j then (w.Zb 3).up else false),al (if 4<j then (w.Zb 4).up else false),lv,W O (w.Yw 0),W O (w.Yw 1),W O (w.Yw 2),W O (w.Yw 3),W O (w.Yw 4),tv]
theorem nj(w:Wd)(j:Nat)(lv tv:ae):(dz w j lv tv).length=13:=rfl
theorem Zia(w:Wd)(j:Nat)(lv tv:ae)(hj:j<5):(dz w j lv tv).set (1+j) (al (w.Zb j).up)=dz w (j+1) lv tv:=by
 match j,hj with
 | 0,_=>rfl
 | 1,_=>rfl
 | 2,_=>rfl
 | 3,_=>rfl
 | 4,_=>rfl
theorem Zef(w:Wd)(j:Nat)(lv lv' tv:ae):(dz w j lv tv).set 6 lv'=dz w j lv' tv:=rfl
def KT(w:Wd)(j:Nat):List (List Cm):=(cA j).map fun i=>(w.Zb i).Zw
theorem dA(w:Wd)(j:Nat):KT w (j+1)=KT w j++[(w.Zb j).Zw]:=by
 unfold KT;rw[cx,cy];rfl
def jW(t:Tg):Prop:=t=.Zw 100\/t=.Zw 101
theorem LY{α β:Type}{R R':α->β->Prop}{l:List α}{k:List β}(s:az R l k)(h:∀x y,R x y->R' x y):az R' l k:=by
 induction s with
 | nil=>exact .nil
 | cons a _ ih=>exact .cons (h _ _ a) ih
theorem sy(l:List ae):ZU (fun v=>[v]) l=l:=by
 induction l with
 | nil=>rfl
 | cons x l ih=>
  have:ZU (fun v=>[v]) (x :: l)=[x]++ZU (fun v=>[v]) l:=by simp[ZU]
  rw[this,ih];rfl
theorem nk{o:Ow}{t:Tg}{E:TypeId}{n m:Nat}{h G:Hp}{v:ae}{cs:List ae}(s:XC o t E n h v m cs)(hG:∀b,o b=X t->b<h.size->G[b]? = h[b]?):XC o t E n G v m cs:=by
 rcases s with s|⟨b',j,cap,pre,ZG,h1,rfl,h3,h4,h5,h6,h7⟩
 .exact .inl s
 .exact .inr ⟨b',j,cap,pre,ZG,h1,rfl,by rw[hG b' h1 (Za h3)];exact h3,h4,h5,h6,h7⟩
theorem Znf{o:Ow}{n m:Nat}{h G:Hp}{v:ae}{cs:List ae}(s:Im o n h v m cs)(hG:∀b,Yf v=X b->b<h.size->G[b]? = h[b]?):Sl n G v m cs:=by
 obtain⟨⟨p,c,rfl,hl,hcc⟩,⟨p',c',he,hm⟩,hf⟩:=s;simp only[Value.slice.injEq,true_and]at he;obtain⟨rfl,rfl⟩:=he;refine⟨p,c,rfl,hl,fun Y4=>?_⟩;obtain⟨b,off,rfl,XI⟩:=hcc Y4;have lJ:c≠0:=by
  intro e;have:m=0:=nT;rw[this,Nat.zero_mul]at hl;exact Y4 (List.eq_nil_of_length_eq_zero hl)
 have hb:Yf (U (X ⟨b,off,Y⟩) m c)=X b:=by unfold Yf;simp only;rw[if_neg lJ]
 refine⟨b,off,rfl,fun i hi=>?_⟩;have h1:=XI i hi;have h2:=hG b hb (hf b hb).1;unfold V.hc at h1 ⊢;rw[h2];exact h1
theorem Zar{S:Tg->Prop}{h h':Hp}{o':Ow}{t:Tg}{b:Nat}(k:Kp S LX h o' h')(hb:o' b=X t):h.size<=b:=by
 refine aq fun q=>?_;obtain⟨_,h2⟩:=k.Ze b nT (fun t ht=>by cases ht);rw[hb]at h2;cases h2
set_option maxHeartbeats 8000000 in
theorem Zeg(T:bC)(h:Hp)(v:ae)(xs:List (Raw × ae))(hv:Ts WD 5 h v xs)(hx:∀x∈xs,PT LX h x.2 x.1.data)(tb:fK LX h)(BD:xs.length<=4611686018427387904)(inv:(∀x∈Xe xs,x.err=0)->xs.length<=100000->∀j,j<=xs.length->WOk (Mt (((Xe xs).take j).map Raw.ac))):
  Zd a8 T 18 #[v] h fun v' h'=>Zj h.size h h'/\Cb h.size h' v' (Xe xs):=by
 obtain⟨p,c,rfl,XI⟩:=Cc hv;refine Zd.Ld [_] Tryz.func18 ?_;obtain⟨h1,Xm⟩:=ZN (h.push (.cells uH.toArray 42):Hp);have e1:=Xm.symm;unfold uH at e1;have b1:Zj h.size h h1:=by rw[Xm];exact Zj.push (ao _) _
 have s1:h1.size=h.size+1:=by rw[Xm];simp
 have x2:h1[h.size]? = X (.cells uH.toArray 42):=by rw[Xm];exact Zc
 have rl:(Xe xs).length=xs.length:=by unfold Xe;simp
 have rz:∀G:Hp,Zj h1.size h1 G->G[h.size]? = X (.cells uH.toArray 42):=fun G hG=>hG.get nT x2;have wz:∀G:Hp,Zj h1.size h1 G->wr G ⟨h.size,0,Y⟩ [.int .i64 0,.bool false,.bool false,.bool false,.bool false,.bool false,.slice Y 0 0,.int .i64 0,.int .i64 0,.int .i64 0,.int .i64 0,.int .i64 0,.slice Y 0 0]=X G:=fun G hG=>by
  rw[Yd (rz G hG) 0 _];have:(G.setIfInBounds h.size (.cells (Y8 uH 0 [.int .i64 0,.bool false,.bool false,.bool false,.bool false,.bool false,.slice Y 0 0,.int .i64 0,.int .i64 0,.int .i64 0,.int .i64 0,.int .i64 0,.slice Y 0 0]).toArray 42))=G:=G9 (rz G hG);rw[if_pos ⟨by simp[uH],rfl⟩];exact congrArg X this
 have rr:∀G:Hp,Zj h1.size h1 G->rd G ⟨h.size,0,Y⟩ 13=X [.int .i64 0,.bool false,.bool false,.bool false,.bool false,.bool false,.slice Y 0 0,.int .i64 0,.int .i64 0,.int .i64 0,.int .i64 0,.int .i64 0,.slice Y 0 0]:=fun G hG=>Zz (rz G hG) rfl;have w0:=wz h1 (Zj.refl _ _);have r0:=rr h1 (Zj.refl _ _);have l0:=Za x2;by_cases Zf1:100000<xs.length
 .have Zas:(xs.length:Int)>100000:=nT;have e2:SY (Xe xs)=1:=by unfold SY;rw[rl,if_pos Zf1]
  simp only[go_sem,e1,Zas,w0,r0];refine⟨b1,?_⟩;unfold Cb;rw[e2,if_neg Iw];rfl
 have Zas:¬(xs.length:Int)>100000:=nT;have Zib:xs.length<=100000:=nT;have e2:SY (Xe xs)=Uh (Xe xs):=by unfold SY;rw[rl,if_neg Zf1]
 have Aa:∀i (hi:i<xs.length),(Xe xs)[i]'(by rw[rl];exact hi)=xs[i].1:=fun i hi=>by unfold Xe;simp
 simp only[go_sem,e1,Zas];refine VS.Yk (fun F g=>F 0=.slice p xs.length c/\F 2=.pointer (X ⟨h.size,0,Y⟩)/\F 17=.slice p xs.length c/\F 18=.int .i64 xs.length/\Zj h1.size h1 g/\∃j:Nat,j<=xs.length/\F 19=.int .i64 j/\∀x∈(Xe xs).take j,x.err=0)
  (fun F _=>xs.length-(vi (F 19)).toNat) rfl ⟨rfl,rfl,rfl,rfl,Zj.refl _ _,0,bG _,rfl,fun x hx=>by simp at hx⟩ ?_
 rintro F2 g2 ⟨f0,f2,f17,f18,b2,j,hj,f19,hz⟩;by_cases ZS:j<xs.length
 .have Z7:(j:Int)<xs.length:=nT;obtain⟨bb,oo,rfl,T5,PH⟩:=XI (by intro e;rw[e]at ZS;simp at ZS);obtain⟨x,O3⟩:=ZN (xs[j]);have hxm:x∈xs:=by rw[O3];exact b6 ZS
  have iv:=hx x hxm;obtain⟨pd,cd,PZ⟩:=iv.1.ZO;have r1:rd g2 ⟨bb,oo+j*5,Y⟩ 5=X (WD x):=by rw[Um (b1.trans (b2.mono nT)) T5,O3];exact PH j ZS
  unfold WD FK at r1;rw[PZ]at r1;obtain⟨g3,hg3⟩:=ZN (g2.push (.cells (FK x.1.k x.1.n x.1.a x.1.b (.slice pd x.1.data.length cd)).toArray 36):Hp);have e3:=hg3.symm;have y3:g3[g2.size]? = X (.cells (FK x.1.k x.1.n x.1.a x.1.b (.slice pd x.1.data.length cd)).toArray 36):=by rw[hg3];exact Zc
  have r3:rd g3 ⟨g2.size,0,Y⟩ 5=X (FK x.1.k x.1.n x.1.a x.1.b (.slice pd x.1.data.length cd)):=Zz y3 rfl;unfold FK at e3 r3;have b3:Zj h1.size h1 g3:=by rw[hg3];exact b2.YU b2.size _
  have ck:=ES T g3 x.1.k x.1.n x.1.a x.1.b pd x.1.data.length cd;unfold GZ at ck;simp only[go_sem,f0,f2,f17,f18,f19,Z7,r1,e3,r3];refine ck.use ?_;rintro _ g4 ⟨rfl,b4⟩;have B4:Zj h1.size h1 g4:=b3.trans (b4.mono b3.size);have exr:x.1.err=Wl x.1.k x.1.n x.1.a x.1.b x.1.data.length:=rfl;rw[<-exr];by_cases hex:x.1.err=0
  .simp only[go_sem,hex,f19];unfold XU;refine⟨⟨f0,f2,f17,f18,B4,j+1,ZS,rfl,fun y hy=>?_⟩,?_⟩
   .rw[Y1 _ j (by rw[rl];exact ZS),a2]at hy;rcases hy with hy|hy
    .exact hz y hy
    .rw[Aa j ZS,<-O3]at hy;have:y=x.1:=by simpa using hy
     rw[this];exact hex
   .simp only[vi,Zq,↓reduceIte,f19];omega
  .have w4:=wz g4 B4;have r4:=rr g4 B4;have l4:=Za (rz g4 B4);simp only[go_sem,hex,w4,r4,f2,l4];refine⟨b1.trans (B4.mono nT),?_⟩;unfold Cb;have:Uh (Xe xs)=x.1.err:=by
    have:=FS (l:=Xe xs) (j:=j) (by rw[rl];exact ZS) hz (by rw[Aa j ZS,<-O3];exact hex);rw[this,Aa j ZS,<-O3]
   rw[e2,this,if_neg hex];rfl
 have Xv:¬(j:Int)<xs.length:=nT;obtain rfl:j=xs.length:=nT;have Jc:∀x∈Xe xs,x.err=0:=fun x hx=>hz x (by rw[am nT];exact hx);have hzero:SY (Xe xs)=0:=by rw[e2];exact OL Jc
 have inv:=inv Jc Zib;simp only[go_sem,f18,f19,Xv];refine (Zaq T g2 LX (FT g2)).use ?_;rintro _ g3 ⟨wb,Zwa,o3,WA3,rfl,K3,A3⟩;unfold Zx;have bh2:Zj h.size h g2:=b1.trans (b2.mono nT);have kh2:Kp SW LX h LX g2:=Kp.GK (FT h) bh2 _;obtain⟨acs,Zeh⟩:=ZN ((Xe xs).map Raw.ac);have Zng:acs.length=xs.length:=by rw[Zeh,b8,rl]
 have inv:∀j,j<=xs.length->WOk (Mt (acs.take j)):=fun j hj=>by
  have:=inv j hj;rw[Zeh,<-List.map_take];exact this
 simp only[go_sem,f0,f2];refine VS.Yk (fun F g=>F 2=.pointer (X ⟨h.size,0,Y⟩)/\F 7=.pointer (X ⟨wb,0,Y⟩)/\F 31=.slice p xs.length c/\F 32=.int .i64 xs.length/\∃(j:Nat) (o':Ow) (YM:Nat->Nat) (Jv:WA),j<=xs.length/\F 33=.int .i64 j/\Kp SW LX g2 o' g/\QD o' g wb YM Jv (Mt (acs.take j)))
  (fun F _=>xs.length-(vi (F 33)).toNat) rfl ⟨f2,rfl,rfl,rfl,0,o3,Zwa,WA3,bG _,rfl,K3,A3⟩ ?_
 clear f0 f2 f17 f18 f19 K3 A3;rintro F4 g4 ⟨f2,f7,f31,f32,j,o4,Zwb,mW,hj,f33,K4,A4⟩;by_cases ZS:j<xs.length
 .have Z7:(j:Int)<xs.length:=nT;obtain⟨bb,oo,rfl,T5,PH⟩:=XI (by intro e;rw[e]at ZS;simp at ZS);obtain⟨x,O3⟩:=ZN (xs[j]);have hxm:x∈xs:=by rw[O3];exact b6 ZS
  have hxe:x.1.err=0:=Jc x.1 (by unfold Xe;exact List.mem_map_of_mem hxm);obtain⟨q1,q2,q3,q4,q5⟩:=BZ hxe;have Kh4:Kp SW LX h o4 g4:=kh2.trans K4;have iv:=(hx x hxm).Ze Kh4;obtain⟨pd,cd,PZ⟩:=iv.1.ZO;have r1:rd g4 ⟨bb,oo+j*5,Y⟩ 5=X (WD x):=by rw[Um (jT Kh4) T5,O3];exact PH j ZS
  unfold WD FK at r1;rw[PZ]at r1 iv;obtain⟨g5,hg5⟩:=ZN (g4.push (.cells (FK x.1.k x.1.n x.1.a x.1.b (.slice pd x.1.data.length cd)).toArray 36):Hp);have e5:=hg5.symm;have k5:Kp WL o4 g4 o4 g5:=by rw[hg5];exact Yu K4.Yp _
  have y5:g5[g4.size]? = X (.cells (FK x.1.k x.1.n x.1.a x.1.b (.slice pd x.1.data.length cd)).toArray 36):=by rw[hg5];exact Zc
  have r5:rd g5 ⟨g4.size,0,Y⟩ 5=X (FK x.1.k x.1.n x.1.a x.1.b (.slice pd x.1.data.length cd)):=Zz y5 rfl;unfold FK at e5 r5;have en:((x.1.n.toNat:Nat):Int)=x.1.n:=nT;have ea:((x.1.a.toNat:Nat):Int)=x.1.a:=nT;have cd2:=Zh5 T g5 o4 wb Zwb mW (Mt (acs.take j)) x.1.ac (.slice pd x.1.data.length cd) k5.Yp (A4.Zn k5) (inv j hj) q1 (by unfold Raw.ac;simp only;omega) (iv.Ze k5) (by unfold Raw.ac;simp only;omega) ((tb.Ze Kh4).Ze k5);unfold Zx FK Raw.ac at cd2;simp only at cd2;rw[en,ea]at cd2;have XE:Mt (acs.take (j+1))=act (Mt (acs.take j)) ⟨x.1.k,x.1.n.toNat,x.1.a.toNat,x.1.b,x.1.data⟩:=by
   rw[Y1 _ j (by rw[Zng];exact ZS)];unfold Mt;rw[cp];have:acs[j]'(by rw[Zng];exact ZS)=⟨x.1.k,x.1.n.toNat,x.1.a.toNat,x.1.b,x.1.data⟩:=by
    simp only[Zeh,List.getElem_map,Aa j ZS,<-O3];rfl
   rw[this];rfl
  simp only[go_sem,f2,f7,f31,f32,f33,Z7,r1,e5,r5];refine cd2.use ?_;rintro v' g6 ⟨o6,WA6,Zwd,k6,A6⟩;simp only[go_sem,f33];unfold XU;refine⟨⟨f2,f7,f31,f32,j+1,o6,Zwd,WA6,ZS,rfl,(K4.trans (YQ k5)).trans k6,by rw[XE];exact A6⟩,?_⟩;simp only[vi,Zq,↓reduceIte,f33];omega
 have Xv:¬(j:Int)<xs.length:=nT;obtain rfl:j=xs.length:=nT;rw[am nT]at A4;have okW:=inv xs.length (ao _);rw[am nT]at okW;obtain⟨w,hw⟩:=ZN (Mt acs);rw[<-hw]at A4 okW;have U4:=XP A4.wd.ZW.2;have U4o:=U4.out;have Zwe:=Za A4.wd.ZW.2;obtain⟨pf,cf,hpf,_⟩:=Rz A4.wd.Zo;obtain⟨pt,ct,uG,_⟩:=A4.wd.ZA.ZO;obtain⟨tv,htv⟩:=ZN (mW.ZA);rw[uG]at U4o htv;obtain⟨kb,hkb⟩:=ZN (g4.size);obtain⟨g5,hg5⟩:=ZN (g4.push (.cells [.int .i64 0,.bool false,.bool false,.bool false,.bool false,.bool false,.slice Y 0 0,.int .i64 (w.Yw 0),.int .i64 (w.Yw 1),.int .i64 (w.Yw 2),.int .i64 (w.Yw 3),.int .i64 (w.Yw 4),.slice pt w.ZA.length ct].toArray 42):Hp);have e5:=hg5.symm;have y5:g5[kb]? = X (.cells [.int .i64 0,.bool false,.bool false,.bool false,.bool false,.bool false,.slice Y 0 0,.int .i64 (w.Yw 0),.int .i64 (w.Yw 1),.int .i64 (w.Yw 2),.int .i64 (w.Yw 3),.int .i64 (w.Yw 4),.slice pt w.ZA.length ct].toArray 42):=by rw[hg5,hkb];exact Zc
 have k5:Kp WL o4 g4 o4 g5:=by rw[hg5];exact Yu K4.Yp _
 obtain⟨g6,LS⟩:=ZN (g5.setIfInBounds kb (.cells (dz w 0 (.slice Y 0 0) (.slice pt w.ZA.length ct)).toArray 42):Hp);have w6:QQ g5 ⟨kb,0,Y⟩ (.int .i64 w.Zo.length)=X g6:=by rw[Xh y5 0 _,LS];rfl
 have l5:=Za y5;obtain⟨o6,ho6⟩:=ZN (QS o4 kb (.Zw 101));have k6:Kp jW o4 g4 o6 g6:=by rw[ho6,LS];exact ((Z0 k5).Oh nT l5 (.inr rfl)).xj nT _
 have B6:WJ o6 (.Zw 101) g6 kb (.cells (dz w 0 (.slice Y 0 0) (.slice pt w.ZA.length ct)).toArray 42):=⟨by rw[ho6];exact XR,by rw[LS];exact ZQ y5⟩
 have A5:=A4.Zn k5;have U5:=XP A5.wd.ZW.2;have U5f:=U5.Zo;rw[hpf]at U5f;have jJ:=Za A5.wd.ZW.2;have nof:∀t,jW t->t.of≠Y:=by rintro t (rfl|rfl) e<;>cases e
 have non:∀t (i:Nat),i<5->jW t->t.of≠X i:=by
  rintro t i hi (rfl|rfl) e
  .have:=Option.some.inj e;omega
  .have:=Option.some.inj e;omega
 have W6:=A4.wd.Ze k6 nof;obtain⟨bn,Zwg,cn,hn,wh,hbn,Zic⟩:=TH W6;have U6n:=(XP W6.ZW.2).Zb;rw[hn]at U6n;have Znh:=Za W6.ZW.2;simp only[go_sem,f32,f33,Xv,f2,f7,U4o,Zwe,e5];rw[<-hkb];simp only[go_sem,f7,U5f,jJ,w6,l5,U6n,Znh];refine VS.Yk (fun F g=>F 2=.pointer (X ⟨h.size,0,Y⟩)/\F 10=.pointer (X ⟨kb,0,Y⟩)/\F 54=.slice (X ⟨bn,Zwg,Y⟩) 5 cn/\F 55=.int .i64 5/\∃(j:Nat) (o':Ow) (lv:ae) (vs:List ae),j<=5/\F 56=.int .i64 j/\Kp jW o4 g4 o' g/\WJ o' (.Zw 101) g kb (.cells (dz w j lv (.slice pt w.ZA.length ct)).toArray 42) /\
   XC o' (.Zw 100) 55 1 g lv j vs/\az (fun v l=>Im o' 5 g v l.length (ZU Qo.C l)/\∀b,Yf v=X b->g4.size<=b) vs (KT w j))
  (fun F _=>5-(vi (F 56)).toNat) rfl ⟨f2,rfl,rfl,rfl,0,o6,.slice Y 0 0,[],nT,rfl,k6,B6,XC.nil _ _ _ _ _,.nil⟩ ?_
 clear f2 f7 f31 f32 f33 B6 k6 w6 l5 U6n Znh W6 Zic hbn ho6 LS y5 e5;rintro F7 g7 ⟨f2,f10,f54,f55,j,o7,lv,vs,hj,f56,K7,B7,O7,L7⟩;have W7:=A4.wd.Ze K7 nof;by_cases ZS:j<5
 .have Z7:(j:Int)<5:=nT;obtain⟨na,N4j⟩:=A4.nd j ZS;have N7:=N4j.Ze K7 (fun t q=>non t j ZS q);obtain⟨bn',ZBe,cn',NH,ZIN,hbn,Zic⟩:=TH W7;rw[hn]at NH;simp only[Value.slice.injEq,Option.some.injEq,Addr.mk.injEq,true_and,and_true]at NH;obtain⟨⟨rfl,rfl⟩,rfl⟩:=NH;have ri:=Zic j ZS;unfold Zx at ri;have P7:=ZP N7.ZW.2 N7.pt.store.len;have P7u:=P7.up;have ZhR:=Za N7.ZW.2;have l7:=Za B7.2;obtain⟨g8,E7⟩:=ZN (g7.setIfInBounds kb (.cells (dz w (j+1) lv (.slice pt w.ZA.length ct)).toArray 42):Hp);have w8:QQ g7 ⟨kb,1+j,Y⟩ (.bool (w.Zb j).up)=X g8:=by
   rw[Xh B7.2,if_pos ⟨by rw[nj];omega,rfl⟩,Zia w j lv _ ZS,E7]
  have k8:Kp jW o7 g7 o7 g8:=by rw[E7];exact (Kp.refl K7.Yp jW).set B7.1 (.inr rfl) _
  have k8':Kp (fun t=>t=.Zw 101) o7 g7 o7 g8:=by rw[E7];exact (Kp.refl K7.Yp (fun t=>t=.Zw 101)).set B7.1 rfl _
  have B8:WJ o7 (.Zw 101) g8 kb (.cells (dz w (j+1) lv (.slice pt w.ZA.length ct)).toArray 42):=⟨B7.1,by rw[E7];exact ZQ B7.2⟩
  have O8:=O7.Ze k8' Hy;have L8:=LY L7 (R':=fun v l=>Im o7 5 g8 v l.length (ZU Qo.C l)/\∀b,Yf v=X b->g4.size<=b) (fun v l q=>⟨q.1.Ze k8,q.2⟩);have K8:=K7.trans k8;have N8:=N7.Ze k8 (fun t q=>non t j ZS q);have P8l:=(ZP N8.ZW.2 N8.pt.store.len).Zw;obtain⟨pl,cl,MG,_⟩:=XC.ZO N8.pt.Zw;have MG:na.Zw=.slice pl (w.Zb j).Zw.length cl:=MG;rw[MG]at P8l;have Tl:=N8.pt.Zw.ts;rw[MG]at Tl;have ZdX:=Za N8.ZW.2;have l8:=Za B8.2;obtain⟨plv,clv,rfl,_⟩:=O8.ZO;have r8:hc g8 ⟨kb,6,Y⟩=X (.slice plv j clv):=Zl B8.2;have cc:=jS T g8 (.slice pl (w.Zb j).Zw.length cl) (w.Zb j).Zw Tl (by have:=okW.Zw j ZS;omega);simp only[go_sem,f2,f10,f54,f55,f56,Z7,ri,P7u,ZhR,w8,l7,hbn];refine VS.z (g8.size) [8,10] (.p 0 (.q 1 (.p 2 (.p 3 (.p 4 (.q 5 (.s 6 (.s 7 (.w 8 (.p 9 (.w 10 .nil))))))))))) mixed uj ?_;simp only[go_sem,f2,f10,r8,P8l,ZdX,l8];refine cc.use ?_;rintro v9 g9 ⟨o9,b9⟩;have k9:Kp WL o7 g8 o7 g9:=ZX K8.Yp b9;have im9:Im o7 5 g9 v9 (w.Zb j).Zw.length (ZU Qo.C (w.Zb j).Zw):=Im.WV o9.Zm (fun b hb=>K8.Yp b hb);have lo9:∀b,Yf v9=X b->g4.size<=b:=fun b hb=>bk K8.size (o9.Zm.ZW b hb);obtain⟨p9,c9,rfl⟩:=im9.ZO;obtain⟨g10,Zei⟩:=ZN (g9.push (.cells [.slice p9 (w.Zb j).Zw.length c9].toArray 55):Hp);have e10:=Zei.symm;have rq:Kp WL o7 g9 o7 g10:=by rw[Zei];exact Yu k9.Yp _
  have K10:Kp jW o4 g4 o7 g10:=(K8.trans (Z0 k9)).trans (Z0 rq);have B10:=(B8.Ze k9 (fun q=>q)).Ze rq (fun q=>q);have O10:=(O8.Ze k9 (fun q=>q)).Ze rq (fun q=>q);have Zwi:=im9.Ze rq;have x10:g10[g9.size]? = X (.cells [.slice p9 (w.Zb j).Zw.length c9].toArray 55):=by rw[Zei];exact Zc
  have src:Sl 1 g10 (.slice (X ⟨g9.size,0,Y⟩) 1 1) 1 [.slice p9 (w.Zb j).Zw.length c9]:=⟨_,1,rfl,rfl,fun _=>⟨g9.size,0,rfl,fun i hi=>by
   rw[Zl x10,YW,Nat.zero_add];exact bQ hi⟩⟩
  simp only[go_sem,b9,e10];refine⟨by rw[Zei];exact b9.YU b9.size _,?_⟩;refine QT (E:=55) (n:=1) (bytes:=24) (k:=1) ZkS Tryz.underlying38 ZrZ Zr1 rfl Zr0 O10 K10.Yp src rfl nT nT ?_;intro v11 o11 g11 O11 uB _;have uB:Kp (fun u=>u=.Zw 100) o7 g10 o11 g11:=uB;obtain⟨p11,c11,rfl,_⟩:=O11.ZO;have B11:=B10.Ze uB Hy;have l11:=Za B11.2;obtain⟨g12,aU⟩:=ZN (g11.setIfInBounds kb (.cells (dz w (j+1) (.slice p11 (j+1) c11) (.slice pt w.ZA.length ct)).toArray 42):Hp);have w12:QQ g11 ⟨kb,6,Y⟩ (.slice p11 (j+1) c11)=X g12:=by
   rw[Xh B11.2,if_pos ⟨by rw[nj];omega,rfl⟩,Zef,aU]
  have k12:Kp (fun t=>t=.Zw 101) o11 g11 o11 g12:=by rw[aU];exact (Kp.refl uB.Yp (fun t=>t=.Zw 101)).set B11.1 rfl _
  have B12:WJ o11 (.Zw 101) g12 kb (.cells (dz w (j+1) (.slice p11 (j+1) c11) (.slice pt w.ZA.length ct)).toArray 42):=⟨B11.1,by rw[aU];exact ZQ B11.2⟩
  simp only[go_sem,f10,w12,l11,f56];unfold XU;refine⟨⟨f2,f10,f54,f55,j+1,o11,.slice p11 (j+1) c11,vs++[.slice p9 (w.Zb j).Zw.length c9],ZS,rfl,(K10.trans (uB.mono fun t q=>.inl q)).trans (k12.mono fun t q=>.inr q),B12,O11.Ze k12 Hy,?_⟩,?_⟩
  .rw[dA];refine dd (LY L8 fun v l q=>⟨((((q.1.Ze k9).Ze rq).Ze uB).Ze k12),q.2⟩) ⟨(Zwi.Ze uB).Ze k12,lo9⟩
  .simp only[vi,Zq,↓reduceIte,f56];omega
 have Xv:¬(j:Int)<5:=nT;obtain rfl:j=5:=nT;have bx7:Ya o7 g7 h.size (.cells uH.toArray 42):=Ya.Ze (Ya.Ze (o:=LX) ⟨rfl,rz g2 b2⟩ K4) K7;have rk:rd g7 ⟨kb,0,Y⟩ 13=X (dz w 5 lv (.slice pt w.ZA.length ct)):=Zz B7.2 rfl;obtain⟨g8,E7⟩:=ZN (g7.setIfInBounds h.size (.cells (dz w 5 lv (.slice pt w.ZA.length ct)).toArray 42):Hp);have w8:wr g7 ⟨h.size,0,Y⟩ (dz w 5 lv (.slice pt w.ZA.length ct))=X g8:=by
  obtain⟨plv,clv,rfl,_⟩:=O7.ZO;rw[Yd bx7.2 0 _,E7];rfl
 have l7:=Za bx7.2;have r8:rd g8 ⟨h.size,0,Y⟩ 13=X (dz w 5 lv (.slice pt w.ZA.length ct)):=Zz (by rw[E7];exact ZQ bx7.2) rfl;have K7a:Kp SW LX h o7 g7:=(kh2.trans K4).trans (YQ K7);have vl:vs.length=5:=by have:=O7.length;omega
 have bound:h.size<g4.size:=bf (Za (rz g2 b2)) K4.size;rw[show dz w 5 lv (.slice pt w.ZA.length ct)=jU w lv (.slice pt w.ZA.length ct) from rfl]at rk w8 r8;unfold jU at rk w8 r8;simp only[go_sem,f55,f56,Xv,f2,f10,rk,w8,l7,r8];refine⟨by rw[E7];exact (jT K7a).Zs (ao _) _,?_⟩;unfold Cb;rw[hzero,if_pos rfl,<-Zeh,<-hw];refine⟨_,lv,.slice pt w.ZA.length ct,vs,rfl,fun G hG=>?_⟩;have wt:=W7.ZA;rw[uG]at wt;have Y4:∀b,b<g7.size->b≠h.size->G[b]? = g8[b]? -> G[b]? = g7[b]?:=fun b _ h2 e=>by rw[e,E7,br,if_neg (fun e=>h2 e.symm)]
 have hs8:g8.size=g7.size:=by rw[E7];simp
 have Zm:∀t,∀b,o7 b=X t->b<g7.size->G[b]? = g7[b]?:=fun t b q1 q2=>Y4 b q2 (fun e=>by rw[e,bx7.1]at q1;cases q1) (hG b (Zar K7a q1) nT);refine⟨rfl,⟨by rw[sy,vl];exact (nk O7 (Zm _)).sl⟩,?_,⟨(nk wt (Zm _)).sl⟩,LY (k:=KT w 5) L7 fun v l q=>q.1.fits⟩;refine LY (k:=KT w 5) L7 fun v l q=>⟨Znf q.1 fun b hb ZS=>?_⟩
 have:=q.2 b hb;exact Y4 b ZS nT (hG b nT nT)
structure CmI(C:List Cm)(w v:Wd)(m:Nat):Prop where
 nd:∀i,i<5->Ua C i (v.Zb i)
 Ub:∀i,i<5->∀l∈(v.Zb i).Zf,Q8 C l
 PI:v.Zo=w.Zo
 sum:VF (fun i=>(v.Zb i).Zf.length)<=VF (fun i=>(w.Zb i).Zf.length)+m
 wait:VF (fun i=>(v.Zb i).Zi.length)=VF (fun i=>(w.Zb i).Zi.length)
 ZA:v.ZA=w.ZA
 Yw:v.Yw=w.Yw
theorem jX{C:List Cm}{w:Wd}{l:YF}(h1:∀i,i<5->Ua C i (w.Zb i))(h2:∀i,i<5->∀l∈(w.Zb i).Zf,Q8 C l)(hl:Q8 C l):CmI C w (Q0 w l) 1:=by
 have hto:l.to.toNat<5:=by have:=hl.to;omega
 unfold Q0;split
 .refine⟨fun i hi=>?_,fun i hi x hx=>?_,rfl,?_,?_,rfl,rfl⟩
  .unfold Wd.set;by_cases e:i=l.to.toNat
   .simp only[if_pos e];rw[e];exact { h1 _ hto with }
   .simp only[if_neg e];exact h1 i hi
  .unfold Wd.set at hx;by_cases e:i=l.to.toNat
   .simp only[if_pos e]at hx;rcases a2.1 hx with hx|hx
    .exact h2 _ hto x hx
    .have:x=l:=by simpa using hx
     rw[this];exact hl
   .simp only[if_neg e]at hx;exact h2 i hi x hx
  .have:=RC w l.to.toNat { w.Zb l.to.toNat with Zf:=(w.Zb l.to.toNat).Zf++[l] } (fun n=>n.Zf.length) hto;unfold Wd.set;simp only[aa,bl]at this ⊢;omega
  .have:=RC w l.to.toNat { w.Zb l.to.toNat with Zf:=(w.Zb l.to.toNat).Zf++[l] } (fun n=>n.Zi.length) hto;unfold Wd.set;simp only at this ⊢;omega
 .exact⟨h1,h2,rfl,nT,rfl,rfl,rfl⟩
theorem Zej{C:List Cm}:∀(ls:List YF) (w:Wd),(∀i,i<5->Ua C i (w.Zb i))->(∀i,i<5->∀l∈(w.Zb i).Zf,Q8 C l)->(∀l∈ls,Q8 C l)->CmI C w (ls.foldl Q0 w) (H ls):=by
 intro ls
 induction ls with
 | nil=>intro w h1 h2 _;exact⟨h1,h2,rfl,uK,rfl,rfl,rfl⟩
 | cons l ls ih=>
  intro w h1 h2 h3;have a:=jX h1 h2 (h3 l uK);have b:=ih (Q0 w l) a.nd a.Ub (fun x hx=>h3 x (by simp[hx]));refine⟨b.nd,b.Ub,by rw[be,b.PI,a.PI],?_,by rw[be,b.wait,a.wait],by rw[be,b.ZA,a.ZA],by rw[be,b.Yw,a.Yw]⟩;have h4:=b.sum;have h5:=a.sum;simp only[be,a1];omega
theorem WI.Zek{C:List Cm}{w u v:Wd}{m:Nat}(h:WI C k w)(c:CmI C u v m)(hu1:u.Zb=w.Zb)(hu2:∀l∈u.Zo,l∈w.Zo)(hu3:u.ZA=w.ZA)(hu4:u.Yw=w.Yw)(hm:u.Zo.length+m<=w.Zo.length+1):WI C (k+1) v:=by
 have hs:=c.sum;have hw:=c.wait;rw[hu1]at hs hw;have h1:=h.room;have h2:=h.wait;refine⟨c.nd,c.Ub,fun l hl=>h.PI l (hu2 l (by rw[<-c.PI];exact hl)),?_,?_,fun i=>by rw[c.Yw,hu4];have:=h.Yw i;omega⟩
 .rw[c.PI];omega
 .rw[c.ZA,hu3,hw];omega
theorem Zid{C:List Cm}{w:Wd}(h:WI C k w)(at':Nat)(comes stays:Bool):WI C (k+1) (pick w at' comes stays):=by
 unfold pick;split
 .exact h.more
 .rename_i l hl;have mG:l∈w.Zo:=List.mem_of_getElem? hl;have hll:=h.PI l mG;have el:(w.Zo.eraseIdx (at'%w.Zo.length)).length+1<=w.Zo.length+1:=by
   have:=List.length_eraseIdx_le w.Zo (at'%w.Zo.length);omega
  have el2:(w.Zo.eraseIdx (at'%w.Zo.length)).length<=w.Zo.length:=nT
  cases comes with
  | true=>
   cases stays with
   | true=>exact h.Zek (u:=w) (jX h.nd h.Ub hll) rfl (fun l q=>q) rfl rfl nT
   | false=>exact h.Zek (u:={ w with Zo:=w.Zo.eraseIdx (at'%w.Zo.length) }) (jX h.nd h.Ub hll) rfl (fun l q=>bR q) rfl rfl el
  | false=>
   cases stays with
   | true=>exact h.more
   | false=>exact h.Zek (u:={ w with Zo:=w.Zo.eraseIdx (at'%w.Zo.length) }) (m:=0) ⟨h.nd,h.Ub,rfl,uK,rfl,rfl,rfl⟩ rfl (fun l q=>bR q) rfl rfl (by simp only;omega)
def UE(rc:List Nat):Cm:=⟨Xz ((X7 rc).drop 22) 0,Xz ((X7 rc).drop 22) 1,Xz ((X7 rc).drop 22) 2,Xz ((X7 rc).drop 22) 3,Xz ((X7 rc).drop 22) 4⟩
theorem Zat(n:Nd)(x:Cm):(TF n x).Zi.length<=n.Zi.length+1:=by
 unfold TF;split
 .omega
 .simp
theorem Zau{C:List Cm}{w:Wd}(h:WI C k w)(hi:i<5){rc:List Nat}(hc:UE rc∈C):WI C (k+1) (Jk w i rc):=by
 unfold Jk;split
 .split
  .refine⟨h.nd,h.Ub,h.PI,bk h.room (bo _ (bA k)),bk h.wait (bA k),fun j=>?_⟩;have h1:=h.Yw j;have h2:=h.Yw i;simp only;split<;>omega
  .rename_i q;have e:Xl rc (w.Zb i).Zw.length=UE rc:=by
    unfold Xl UE;rw[if_pos (by simpa using q)]
   rw[e];split
   .have hw:=h.wait;refine⟨h.nd,h.Ub,h.PI,bk h.room (bo _ (bA k)),by simp only[aa,bl];omega,fun j=>by have:=h.Yw j;simp only;omega⟩
   .rw[Sw];have ha:=ZfH (h.nd i hi) hc;have s1:(add (w.Zb i) (UE rc)).Zf=(w.Zb i).Zf:=by unfold add;split<;>rfl
    have s2:(TF (add (w.Zb i) (UE rc)) (UE rc)).Zf=(w.Zb i).Zf:=by unfold TF;split<;>exact s1
    have s3:=Zat (add (w.Zb i) (UE rc)) (UE rc);have s4:=(add_same (w.Zb i) (UE rc)).1;refine h.out hi ?_ (fun l hl=>by cases hl) (by simp only[s2];exact h.Ub i hi) (by simp only[s2];simp) (by simp only[List.length_nil];rw[s4]at s3;omega);unfold TF;simp only;split
    .exact ha
    .exact { ha with }
 .exact h.more
theorem ZfK{C:List Cm}(hC:(H C)<=100000){w:Wd}(h:WI C k w)(a:Ac)(hi:a.ZV<5)(hc:UE a.data∈C):WI C (k+1) (act w a):=by
 have hn:=h.nd a.ZV hi;have hb:=h.Ub a.ZV hi;unfold act;split
 .exact Zau h hi hc
 split
 .obtain⟨l1,l2,l3⟩:=Zao hn;rw[Sw];exact h.out hi l1 (fun l hl=>by cases hl) (by simp only[l2];exact hb) (by simp only[l2];simp) (by simp only[l3];simp)
 split
 .obtain⟨s1,s2,s3,s4,s5⟩:=Zh3 hi hC hn hb;exact h.out hi s1 s2 s3 nT nT
 split
 .exact Zid h _ _ _
 split
 .have c:=Zej w.Zo { w with Zo:=[] } h.nd h.Ub h.PI;exact h.Zek c rfl (fun l hl=>by cases hl) rfl rfl uK
 split
 .obtain⟨c1,c2⟩:=sr hn a.Ze;rw[Sw];rcases c2 with⟨c2,c3⟩|c2
  .exact h.out hi c1 (fun l hl=>by cases hl) (by simp only[c2];intro l hl;cases hl) (by simp only[c2];simp) (by simp only[c3];simp)
  .exact h.out hi c1 (fun l hl=>by cases hl) (by simp only[c2];exact hb) (by simp only[c2];simp) (by simp only[c2];simp)
 .obtain⟨c1,c2⟩:=Ca hn;rw[Sw];rcases c2 with⟨c2,c3⟩|c2
  .exact h.out hi c1 (fun l hl=>by cases hl) (by simp only[c2];intro l hl;cases hl) (by simp only[c2];simp) (by simp only[c3];simp)
  .exact h.out hi c1 (fun l hl=>by cases hl) (by simp only[c2];exact hb) (by simp only[c2];simp) (by simp only[c2];simp)
theorem LZ(C:List Cm):WI C 0 Ur:=by
 refine⟨fun i hi=>H7 uK Da.zero,(fun i hi l hl=>by cases hl),(fun l hl=>by cases hl),by simp[Ur,VF,Yl],by simp[Ur,VF,Yl],fun i=>by simp[Ur]⟩
theorem Zav{C:List Cm}(hC:(H C)<=100000):∀(l:List Ac) (k:Nat) (w:Wd),WI C k w->(∀a∈l,a.ZV<5/\UE a.data∈C)->WI C (k+(H l)) (l.foldl act w):=by
 intro l
 induction l with
 | nil=>intro k w h _;exact h
 | cons a l ih=>
  intro k w h hl;have:=ih (k+1) (act w a) (ZfK hC h a (hl a uK).1 (hl a uK).2) (fun x hx=>hl x (by simp[hx]));rw[a1,show k+((H l)+1)=k+1+(H l) by omega];exact this
theorem Zel(xs:List (Raw × ae))(hz:∀x∈Xe xs,x.err=0)(hl:(H xs)<=100000)(j:Nat)(hj:j<=(H xs)):WOk (Mt (((Xe xs).take j).map Raw.ac)):=by
 obtain⟨C,hC⟩:∃C,C=(Xe xs).map fun x=>UE x.data:=⟨_,rfl⟩
 have rl:(Xe xs).length=(H xs):=by unfold Xe;simp
 have hCl:(H C)<=100000:=by rw[hC,b8,rl];exact hl
 have:=Zav hCl (((Xe xs).take j).map Raw.ac) 0 Ur (LZ C) (fun a ha=>by
  obtain⟨x,hx,rfl⟩:=co.1 ha;have hx:=List.mem_of_mem_take hx;obtain⟨_,h2,_,_,_⟩:=BZ (hz x hx);refine⟨by unfold Raw.ac;simp only;omega,?_⟩;rw[hC];exact co.2 ⟨x,hx,rfl⟩)
 refine this.ok hCl ?_;rw[b8,a5];omega
theorem Zem(T:bC)(h:Hp)(v:ae)(xs:List (Raw × ae))(hv:Ts WD 5 h v xs)(hx:∀x∈xs,PT LX h x.2 x.1.data)(tb:fK LX h)(BD:(H xs)<=4611686018427387904):
  Zd a8 T 18 #[v] h fun v' h'=>Zj h.size h h'/\Cb h.size h' v' (Xe xs):=
 Zeg T h v xs hv hx tb BD fun h1 h2 j hj=>Zel xs h1 h2 j hj
def FU(n m:Int):Int:=(if n<0 then 0-(n+1) else n)%m
theorem U8(n:Int){m:Int}(h:0<m):0<=FU n m/\FU n m<m:=⟨Int.emod_nonneg _ nT,Int.emod_lt_of_pos _ h⟩
def i64(n:Int):Prop:=-9223372036854775808<=n/\n<9223372036854775808
theorem Th(T:bC)(h:Hp)(n m:Int)(hn:i64 n)(hm:1<=m)(ur:m<=1000000):
  Zd a8 T 11 #[W O n,W O m] h fun v' h'=>v'=W O (FU n m)/\h'=h:=by
 unfold i64 at hn;refine Zd.XT [_,_] Tryz.func11 ?_;have hm0:¬m=0:=nT;by_cases q:n<0
 .have e:FU n m=(0-(n+1)).tmod m:=by unfold FU;rw[if_pos q,bw nT]
  rw[e];simp only[go_sem,q,hm0]
 .have e:FU n m=n.tmod m:=by unfold FU;rw[if_neg q,bw nT]
  rw[e];simp only[go_sem,q,hm0]
theorem MA(T:bC)(h:Hp)(n m:Int)(hn:i64 n)(hm:1<=m)(ur:m<=1000000):
  Zd a8 T 6 #[W O n,W O m] h fun v' h'=>v'=W O (FU n m)/\h'=h:=by
 refine Zd.XT [_,_] Tryz.func6 ?_;simp only[go_sem];refine (Th T h n m hn hm ur).pure ?_;simp only[go_sem]
def dB(k c s n v:Int):List ae:=[W O k,W O c,W O s,W O n,W O v]
def cmW(k c s n v:Int):Cm:=⟨1+(FU k 5).tdiv 2,FU c 4,FU s 6,FU n 4,if 1+(FU k 5).tdiv 2=1 then FU v 1000 else 0⟩
theorem dC(T:bC)(h:Hp)(k c s n v:Int)(hk:i64 k)(hc:i64 c)(hs:i64 s)(hn:i64 n)(hv:i64 v):
  Zd a8 T 4 #[a0 (dB k c s n v).toArray] h fun v' h'=>v'=a0 (cmW k c s n v).C.toArray/\Zj h.size h h':=by
 refine Zd.XT [_] Tryz.func4 ?_;unfold dB;simp only[go_sem];refine VS.w (h.size+2) [16] (.q 0 (.q 1 (.q 2 (.q 3 (.q 4 (.q 5 (.q 6 (.q 7 (.q 8 (.q 9 (.q 10 (.q 11 (.q 12 (.q 13 (.q 14 (.s 15 (.w 16 .nil))))))))))))))))) mixed uj ?_;simp only[go_sem];refine UW (fun h=>Th T h k 5 hk nT nT) ?_;simp only[go_sem];refine UW (fun h=>Th T h c 4 hc nT nT) ?_;simp only[go_sem];refine UW (fun h=>Th T h s 6 hs nT nT) ?_;simp only[go_sem];refine UW (fun h=>Th T h n 4 hn nT nT) ?_;have r1:=U8 k (m:=5) nT;generalize KC:FU k 5=K at *;have r2:0<=K.tdiv 2/\K.tdiv 2<=2:=by rw[Int.tdiv_eq_ediv_of_nonneg r1.1];omega
 unfold cmW;rw[KC];generalize K.tdiv 2=J at *;by_cases q:1+J=1
 .simp only[go_sem,q];refine⟨Zj.push uK _,(Th T _ v 1000 hv nT nT).pure ?_⟩;simp only[go_sem,q];exact⟨rfl,(((Zj.refl _ _).add _).add _).add _⟩
 .simp only[go_sem,q];exact⟨Zj.push uK _,rfl,(((Zj.refl _ _).add _).add _).add _⟩
structure Gr where
 k:Int
 a:Int
 b:Int
 c:Int
 d:Int
def Gr.C(g:Gr):List ae:=[W O g.k,W O g.a,W O g.b,W O g.c,W O g.d]
def Gr.ok(g:Gr):Prop:=(i64 g.k/\i64 g.a)/\i64 g.b/\i64 g.c/\i64 g.d
def Ab(n c r u:Int)(x:Cm):List Nat:=if QL n c r u x.k x.c x.s x.n x.v=0 then Hr n c r u x.k x.c x.s x.n x.v else []
def dD:Raw:=⟨7,0,0,0,[]⟩
theorem Cd{B:Nat}{h:Hp}{v:ae}{l:List Nat}{o:Ow}(s:Yx B 5 h v l)(hf:∀b,B<=b->o b=Y):PT o h v l:=⟨Im.WV s.Zm hf,s.byte⟩
def Xc(l:List Raw):Wd:=Mt (l.map Raw.ac)
theorem Zaw{h:Hp}{v:ae}{l:List (Raw × ae)}(s:Ts WD 5 h v l):∃p c,v=U p (H l) c:=by
 obtain⟨p,c,h,_⟩:=Cc s;exact⟨p,c,h⟩
theorem np{α β:Type}{R:α->β->Prop}{l:List α}{k:List β}(h:az R l k):(H l)=(H k):=by
 induction h with
 | nil=>rfl
 | cons _ _ ih=>rw[a1,a1,ih]
set_option maxHeartbeats 4000000 in
theorem Zie(T:bC)(h:Hp)(v:ae)(xs:List (Raw × ae))(hv:Ts WD 5 h v xs)(hx:∀x∈xs,PT LX h x.2 x.1.data)(tb:fK LX h)(BD:(H xs)<=4611686018427387904)(hz:SY (Xe xs)=0):
  Zd a8 T 8 #[v] h fun v' h'=>(∃lv tv vs,v'=.tuple #[a0 (jU (Xc (Xe xs)) lv tv).toArray,al true]/\VG (h.size+1) h' (jU (Xc (Xe xs)) lv tv) (Xc (Xe xs)) lv tv vs)/\Zj h.size h h':=by
 obtain⟨p,c,uD⟩:=Zaw hv;subst uD;refine Zd.XT [_] Tryz.func8 ?_;obtain⟨h0,Ql⟩:=ZN (h.push (ab uH.toArray 42):Hp);have e0:=Ql.symm;have b0:Zj h.size h h0:=by rw[Ql];exact (Zj.refl _ _).add _
 have z0:h0[h.size]? = X (ab uH.toArray 42):=by rw[Ql];exact Zc
 have k0:Kp WL LX h LX h0:=ZX (FT h) b0;unfold uH at e0;simp only[go_sem,e0];refine (Zem T h0 _ xs (hv.Yz b0) (fun x hxm=>(hx x hxm).Ze k0) (tb.Ze k0) BD).use ?_;rintro v1 h1 ⟨b1,r1⟩;have B1:=b0.trans (b1.mono b0.size);unfold Cb at r1;rw[if_pos hz]at r1;obtain⟨R,lv,tv,vs,rfl,rf⟩:=r1;have ra:=rf.at;obtain⟨pl,cl,hl,_⟩:=ra.Zne.open (n:=1) (enc:=fun v=>[v]) (fun _=>rfl) (show (1:Nat)≠0 by decide);have vl:(H vs)=5:=np ra.each;subst hl;rw[vl]at *;have rc:=ra.cells;subst rc;obtain⟨R,hR⟩:=ZN (jU (Xc (Xe xs)) (U pl 5 cl) tv);have hR':jU (Mt (List.map Raw.ac (Xe xs))) (U pl 5 cl) tv=R:=by rw[hR];rfl
 rw[hR'];rw[hR']at ra rf;obtain⟨pt,ct,ht,_⟩:=ra.ZA.open (n:=5) (enc:=Mu) (fun _=>rfl) (show (5:Nat)≠0 by decide);have hRl:(H R)=13:=by rw[hR];rfl
 have uE:R.all YD=true:=by rw[hR,ht];rfl
 have hRp:Y8 [Value.int O 0,al false,al false,al false,al false,al false,U Y 0 0,W O 0,W O 0,W O 0,W O 0,W O 0,U Y 0 0] 0 R=R:=Z4 (by rw[hRl];rfl);have Zen:(H R)<=13:=nT;have hR6:nth R 6=X (U pl 5 cl):=by rw[hR];rfl
 obtain⟨h2,VZ⟩:=ZN (h1.push (ab R.toArray 42):Hp);have e2:=VZ.symm;have b2:Zj h1.size h1 h2:=by rw[VZ];exact (Zj.refl _ _).add _
 have y2:h2[h1.size]? = X (ab R.toArray 42):=by rw[VZ];exact Zc
 have z2:=b2.get (Za (b1.get (Za z0) z0)) (b1.get (Za z0) z0);have lz:=Za z2;have ly:=Za y2;have r2:rd h2 ⟨h1.size,0,Y⟩ 13=X R:=Zz y2 hRl;have r6:hc h2 ⟨h1.size,6,Y⟩=X (U pl 5 cl):=by rw[Zl y2];exact hR6
 have w2:wr h2 ⟨h.size,0,Y⟩ R=X (h2.setIfInBounds h.size (ab R.toArray 42)):=by
  rw[Yd z2 0 _,if_pos ⟨by rw[hRl];decide,uE⟩];have:Y8 uH 0 R=R:=Z4 (by rw[hRl];rfl);rw[this]
 have z3:=ZQ (o:=ab R.toArray 42) z2;have r3:=Zz z3 hRl;simp only[go_sem,hRl,uE,hRp,Zen,e2];refine VS.z (h.size) [0,5,9] (.p 1 (.p 2 (.p 3 (.p 4 (.or 0 (.or 5 (.p 6 (.p 7 (.p 8 (.w 9 (.p 10 .nil))))) (.s 9 (.w 5 (.p 6 (.p 7 (.p 8 (.p 10 .nil))))))) (.s 5 (.p 6 (.p 7 (.p 8 (.w 0 (.w 9 (.p 10 .nil)))))))))))) mixed uj ?_;have s0:h0.size=h.size+1:=by rw[Ql];simp
 have Y4:¬h1.size=h.size:=by have:=b1.size;omega
 have e5:decide (((5:Nat):Int)=5)=true:=rfl;have et:R.take 13=R:=am nT;have bs:Zj h.size h (h2.setIfInBounds h.size (ab R.toArray 42)):=(B1.trans (b2.mono B1.size)).Zs (ao _) _;have rf2:VG (h.size+1) (h2.setIfInBounds h.size (ab R.toArray 42)) R (Mt (List.map Raw.ac (Xe xs))) (U pl 5 cl) tv vs:=by
  rw[s0]at rf;exact (rf.Yz b2).set nT _
 have key:(∃lv tv vs,Value.tuple #[a0 R.toArray,al true]=.tuple #[a0 (jU (Xc (Xe xs)) lv tv).toArray,al true]/\VG (h.size+1) (h2.setIfInBounds h.size (ab R.toArray 42)) (jU (Xc (Xe xs)) lv tv) (Xc (Xe xs)) lv tv vs)/\Zj h.size h (h2.setIfInBounds h.size (ab R.toArray 42)):=
  ⟨⟨_,tv,vs,by rw[<-hR],by rw[<-hR];exact rf2⟩,bs⟩
 simp only[go_sem,r2,r6,w2,hRl,uE,Zen,ly,lz,Y4,hR6,e5,et];exact⟨⟨key,key⟩,key⟩
theorem JW(a:Yn):¬ZE a a:=by unfold ZE;omega
theorem X2{a c:Yn}(h1:¬ZE b a)(h2:¬ZE c b):¬ZE c a:=by unfold ZE at *;omega
theorem L0{a:Yn}(h:ZE a b):¬ZE b a:=by unfold ZE at *;omega
theorem Pj{a:Yn}(h1:¬ZE a b)(h2:¬ZE b a):a=b:=by
 obtain⟨r,n⟩:=a;obtain⟨s,m⟩:=b;unfold ZE at h1 h2;simp only at h1 h2;rw[Yn.mk.injEq];omega
def Zeo(b:Yn):Nat:=(b.r*5+b.n).toNat
theorem nr{a:Yn}(ha:ZD a)(hb:ZD b)(h:ZE a b):Zeo a<Zeo b:=by
 unfold ZD at ha hb;unfold ZE at h;unfold Zeo;omega
theorem OM{α:Type}[DecidableEq α]:∀{l C:List α},l.Nodup->(∀x∈l,x∈C)->(H l)<=(H C):=by
 intro l
 induction l with
 | nil=>intro C _ _;simp
 | cons x l ih=>
  intro C hn h;rw[cr]at hn;have h1:=ih (C:=C.erase x) hn.2 (fun y hy=>(ca (fun e=>hn.1 (by rw[<-e];exact hy))).2 (h y (by simp[hy])));have h2:x∈C:=h x uK;have h3:=bd h2;have h4:0<(H C):=bg h2;simp only[a1];omega
def Maj(Q:List Nat):Prop:=Q.Nodup/\(∀i∈Q,i<5)/\3<=(H Q)
theorem Maj.meet{Q R:List Nat}(q:Maj Q)(r:Maj R):∃i,i∈Q/\i∈R:=by
 refine aq fun h=>?_;have hd:(Q++R).Nodup:=by
  rw[cj];exact⟨q.1,r.1,fun a ha b hb e=>h ⟨a,ha,by rw[e];exact hb⟩⟩
 have:=OM (C:=cA 5) hd (fun x hx=>by
  rw[bh];rcases a2.1 hx with hx|hx
  .exact q.2.1 x hx
  .exact r.2.1 x hx)
 have h1:=q.2.2;have h2:=r.2.2;simp only[aa,List.length_range]at this;omega
structure Gh where
 V:Nat->Yn->Int->Cm->Prop
 P:Yn->Int->Cm->Prop
def IY(g:Gh)(M:Nat->Yn)(b:Yn)(s:Int):Prop:=∃Q,Maj Q/\(∀i∈Q,¬ZE (M i) b)/\∀i∈Q,∀b' y,ZE b' b->¬g.V i b' s y
def Safe(g:Gh)(M:Nat->Yn)(b:Yn)(s:Int)(x:Cm):Prop:=
 ∃Q,Maj Q/\(∀i∈Q,¬ZE (M i) b)/\((∀i∈Q,∀b' y,ZE b' b->¬g.V i b' s y)\/∃b0 j,ZE b0 b/\g.V j b0 s x/\∀i∈Q,∀b' y,ZE b' b->g.V i b' s y->¬ZE b0 b')
theorem IY.safe{g:Gh}{M:Nat->Yn}{s:Int}(h:IY g M b s)(x:Cm):Safe g M b s x:=by
 obtain⟨Q,q,h1,h2⟩:=h;exact⟨Q,q,h1,.inl h2⟩
structure GI(S:Cm->Prop)(g:Gh)(M:Nat->Yn):Prop where
 vp:∀i b s x,g.V i b s x->g.P b s x
 one:∀b s x y,g.P b s x->g.P b s y->x=y
 Z1:∀i b s x,g.V i b s x->¬ZE (M i) b
 may:∀b s x,g.P b s x->ZD b
 safe:∀b s x,g.P b s x->Safe g M b s x
 Zm:∀b s x,g.P b s x->¬ZE (M b.n.toNat) b
 cmd:∀b s x,g.P b s x->x=Nv\/S x
def Jf(g:Gh)(s:Int)(x:Cm):Prop:=∃Q b,Maj Q/\∀i∈Q,g.V i b s x
theorem V7{S:Cm->Prop}{g:Gh}{M:Nat->Yn}(G:GI S g M){Q:List Nat}{s:Int}{x:Cm}(hQ:Maj Q)(hv:∀i∈Q,g.V i b s x):∀n b' y,Zeo b'<=n->g.P b' s y->ZE b b'->y=x:=by
 have hb:g.P b s x:=by
  obtain⟨i,h1,_⟩:=hQ.meet hQ;exact G.vp _ _ _ _ (hv i h1)
 intro n
 induction n with
 | zero=>
  intro b' y h1 h2 h3;have:=nr (G.may _ _ _ hb) (G.may _ _ _ h2) h3;omega
 | succ n ih=>
  intro b' y h1 h2 h3;obtain⟨R,hR,_,h5⟩:=G.safe _ _ _ h2;obtain⟨i,i1,i2⟩:=hQ.meet hR;rcases h5 with h5|⟨b0,j,h5,h6,h7⟩
  .exact (h5 i i2 b x h3 (hv i i1)).elim
  .have h8:=h7 i i2 b x h3 (hv i i1);have h9:=G.vp _ _ _ _ h6;by_cases e:ZE b b0
   .have:=nr (G.may _ _ _ h9) (G.may _ _ _ h2) h5;exact ih b0 y nT h9 e
   .have:=Pj e h8;subst this;exact G.one _ _ _ _ h9 hb
theorem Jf.one{S:Cm->Prop}{g:Gh}{M:Nat->Yn}(G:GI S g M){s:Int}{x y:Cm}(hx:Jf g s x)(hy:Jf g s y):x=y:=by
 obtain⟨Q,b,q,h⟩:=hx;obtain⟨R,c,r,k⟩:=hy;have hb:g.P b s x:=by
  obtain⟨i,h1,_⟩:=q.meet q;exact G.vp _ _ _ _ (h i h1)
 have hc:g.P c s y:=by
  obtain⟨i,h1,_⟩:=r.meet r;exact G.vp _ _ _ _ (k i h1)
 by_cases e:ZE b c
 .exact (V7 G q h _ c y (ao _) hc e).symm
 .by_cases f:ZE c b
  .exact V7 G r k _ b x (ao _) hb f
  .have:=Pj e f;subst this;exact G.one _ _ _ _ hb hc
theorem Jf.ZT{S:Cm->Prop}{g:Gh}{M:Nat->Yn}(G:GI S g M){s:Int}{x:Cm}(hx:Jf g s x):∃b,g.P b s x:=by
 obtain⟨Q,b,q,h⟩:=hx;obtain⟨i,h1,_⟩:=q.meet q;exact⟨b,G.vp _ _ _ _ (h i h1)⟩
structure Ext(i:Nat)(g:Gh)(M:Nat->Yn)(g':Gh)(M':Nat->Yn):Prop where
 v:∀j b s x,g.V j b s x->g'.V j b s x
 p:∀b s x,g.P b s x->g'.P b s x
 m:∀j,¬ZE (M' j) (M j)
 fz:∀j b s x,g'.V j b s x->g.V j b s x\/¬ZE b (M j)
 oth:∀j,j≠i->M' j=M j/\∀b s x,g'.V j b s x->g.V j b s x
 Zm:∀b s x,g'.P b s x->g.P b s x\/b.n=i
theorem Ext.refl(i:Nat)(g:Gh)(M:Nat->Yn):Ext i g M g M:=⟨fun _ _ _ _ h=>h,fun _ _ _ h=>h,fun _=>JW _,fun _ _ _ _ h=>.inl h,fun _ _=>⟨rfl,fun _ _ _ h=>h⟩,fun _ _ _ h=>.inl h⟩
structure PF(g:Gh)(M:Nat->Yn)(i:Nat)(b:Yn)(vs:List Vt):Prop where
 lt:i<5
 Z1:¬ZE (M i) b
 has:∀v∈vs,g.V i v.b v.Zt v.cm/\¬ZE b v.b
 all:∀b' s x,ZE b' b->g.V i b' s x->∃v∈vs,v.Zt=s/\¬ZE v.b b'
section
variable {i:Nat} {g g':Gh} {M M':Nat->Yn}
theorem Ext.frozen(E:Ext i g M g' M'){j:Nat}{b':Yn}{s:Int}{x:Cm}(h:¬ZE (M j) b)(hb:ZE b' b)(hv:g'.V j b' s x):g.V j b' s x:=by
 rcases E.fz _ _ _ _ hv with q|q
 .exact q
 .exact (X2 h q hb).elim
theorem PF.ext(E:Ext i g M g' M'){j:Nat}{vs:List Vt}(h:PF g M j b vs):PF g' M' j b vs:=
 ⟨h.lt,X2 h.Z1 (E.m j),fun v hv=>⟨E.v _ _ _ _ (h.has v hv).1,(h.has v hv).2⟩,fun b' s x hb hv=>h.all b' s x hb (E.frozen h.Z1 hb hv)⟩
theorem Jf.ext(E:Ext i g M g' M'){s:Int}{x:Cm}(h:Jf g s x):Jf g' s x:=by
 obtain⟨Q,b,q,h⟩:=h;exact⟨Q,b,q,fun i hi=>E.v _ _ _ _ (h i hi)⟩
theorem IY.ext(E:Ext i g M g' M'){s:Int}(h:IY g M b s):IY g' M' b s:=by
 obtain⟨Q,q,h1,h2⟩:=h;exact⟨Q,q,fun i hi=>X2 (h1 i hi) (E.m i),fun i hi b' y hb hv=>h2 i hi b' y hb (E.frozen (h1 i hi) hb hv)⟩
theorem Safe.ext(E:Ext i g M g' M'){s:Int}{x:Cm}(h:Safe g M b s x):Safe g' M' b s x:=by
 obtain⟨Q,q,h1,h2⟩:=h;refine⟨Q,q,fun i hi=>X2 (h1 i hi) (E.m i),?_⟩;rcases h2 with h2|⟨b0,j,h3,h4,h5⟩
 .exact .inl fun i hi b' y hb hv=>h2 i hi b' y hb (E.frozen (h1 i hi) hb hv)
 .exact .inr ⟨b0,j,h3,E.v _ _ _ _ h4,fun i hi b' y hb hv=>h5 i hi b' y hb (E.frozen (h1 i hi) hb hv)⟩
end
def Nx(M:Nat->Yn)(i:Nat)(b:Yn):Nat->Yn:=fun j=>if j=i then b else M j
theorem raised{S:Cm->Prop}{g:Gh}{M:Nat->Yn}(G:GI S g M)(hb:¬ZE b (M i)):Ext i g M g (Nx M i b)/\GI S g (Nx M i b):=by
 have hm:∀j,¬ZE (Nx M i b j) (M j):=fun j=>by
  unfold Nx;split
  .rename_i e;rw[e];exact hb
  .exact JW _
 have E:Ext i g M g (Nx M i b):=⟨fun _ _ _ _ h=>h,fun _ _ _ h=>h,hm,fun _ _ _ _ h=>.inl h,fun j hj=>⟨by unfold Nx;rw[if_neg hj],fun _ _ _ h=>h⟩,fun _ _ _ h=>.inl h⟩
 exact⟨E,G.vp,G.one,fun j c s x h=>X2 (G.Z1 j c s x h) (hm j),G.may,fun c s x h=>(G.safe c s x h).ext E,fun c s x h=>X2 (G.Zm c s x h) (hm _),G.cmd⟩
def jY(g:Gh)(i:Nat)(b:Yn)(s:Int)(x:Cm):Gh:=⟨fun j c t y=>g.V j c t y\/(j=i/\c=b/\t=s/\y=x),g.P⟩
theorem Znk{S:Cm->Prop}{g:Gh}{M:Nat->Yn}(G:GI S g M){s:Int}{x:Cm}(hp:g.P b s x)(hb:¬ZE b (M i)):Ext i g M (jY g i b s x) (Nx M i b)/\GI S (jY g i b s x) (Nx M i b):=by
 have hm:∀j,¬ZE (Nx M i b j) (M j):=fun j=>by
  unfold Nx;split
  .rename_i e;rw[e];exact hb
  .exact JW _
 have E:Ext i g M (jY g i b s x) (Nx M i b):=by
  refine⟨fun _ _ _ _ h=>.inl h,fun _ _ _ h=>h,hm,fun j c t y h=>?_,fun j hj=>⟨by unfold Nx;rw[if_neg hj],fun c t y h=>?_⟩,fun _ _ _ h=>.inl h⟩
  .rcases h with h|⟨rfl,rfl,rfl,rfl⟩
   .exact .inl h
   .exact .inr hb
  .rcases h with h|⟨rfl,_⟩
   .exact h
   .exact (hj rfl).elim
 refine⟨E,fun j c t y h=>?_,G.one,fun j c t y h=>?_,G.may,fun c t y h=>(G.safe c t y h).ext E,fun c t y h=>X2 (G.Zm c t y h) (hm _),G.cmd⟩
 .rcases h with h|⟨rfl,rfl,rfl,rfl⟩
  .exact G.vp _ _ _ _ h
  .exact hp
 .rcases h with h|⟨rfl,rfl,rfl,rfl⟩
  .exact X2 (G.Z1 _ _ _ _ h) (hm j)
  .unfold Nx;rw[if_pos rfl];exact JW _
def nt(g:Gh)(b:Yn)(l:List (Int × Cm)):Gh:=⟨g.V,fun c t y=>g.P c t y\/(c=b/\Yg l t=X y)⟩
theorem dE{S:Cm->Prop}{g:Gh}{M:Nat->Yn}(G:GI S g M){l:List (Int × Cm)}(hn:b.n=i)(hm:ZD b)(ht:¬ZE (M i) b)(h1:∀t y,g.P b t y->Yg l t=X y)(h2:∀t y,Yg l t=X y->Safe g M b t y)(h3:∀t y,Yg l t=X y->y=Nv\/S y):
  Ext i g M (nt g b l) M/\GI S (nt g b l) M:=by
 have E:Ext i g M (nt g b l) M:=by
  refine⟨fun _ _ _ _ h=>h,fun _ _ _ h=>.inl h,fun _=>JW _,fun _ _ _ _ h=>.inl h,fun j hj=>⟨rfl,fun _ _ _ h=>h⟩,fun c t y h=>?_⟩;rcases h with h|⟨rfl,_⟩
  .exact .inl h
  .exact .inr hn
 refine⟨E,fun j c t y h=>.inl (G.vp _ _ _ _ h),fun c t y z hy hz=>?_,G.Z1,fun c t y h=>?_,fun c t y h=>?_,fun c t y h=>?_,fun c t y h=>?_⟩
 .rcases hy with hy|⟨rfl,hy⟩
  .rcases hz with hz|⟨rfl,hz⟩
   .exact G.one _ _ _ _ hy hz
   .have:=h1 _ _ hy;rw[hz]at this;exact (Option.some.inj this).symm
  .rcases hz with hz|⟨_,hz⟩
   .have:=h1 _ _ hz;rw[hy]at this;exact Option.some.inj this
   .rw[hy]at hz;exact Option.some.inj hz
 .rcases h with h|⟨rfl,_⟩
  .exact G.may _ _ _ h
  .exact hm
 .rcases h with h|⟨rfl,h⟩
  .exact (G.safe _ _ _ h).ext E
  .exact (h2 _ _ h).ext E
 .rcases h with h|⟨rfl,h⟩
  .exact G.Zm _ _ _ h
  .rw[hn];exact ht
 .rcases h with h|⟨rfl,h⟩
  .exact G.cmd _ _ _ h
  .exact h3 _ _ h
theorem RD{n:Nat}(h:n<4294967296):n/16777216%256*16777216+n/65536%256*65536+n/256%256*256+n%256=n:=nT
theorem dF(h:YG a.p a.l b=0):JC a (JQ b)=X ⟨b,a.l⟩:=by
 have hb:=Nk h;obtain⟨r,m⟩:=b;unfold ZD at hb;simp only at hb;have e1:XD (JQ ⟨r,m⟩) 1=r.toNat:=by
  have:XD (JQ ⟨r,m⟩) 1=r.toNat/16777216%256*16777216+r.toNat/65536%256*65536+r.toNat/256%256*256+r.toNat%256:=by simp[XD,JQ,ZB,Xj]
  rw[this];exact RD nT
 have e2:XD (JQ ⟨r,m⟩) 5=m.toNat:=by
  have:XD (JQ ⟨r,m⟩) 5=m.toNat/16777216%256*16777216+m.toNat/65536%256*65536+m.toNat/256%256*256+m.toNat%256:=by simp[XD,JQ,ZB,Xj]
  rw[this];exact RD nT
 have e3:(⟨((XD (JQ ⟨r,m⟩) 1:Nat):Int),((XD (JQ ⟨r,m⟩) 5:Nat):Int)⟩:Yn)=⟨r,m⟩:=by
  rw[e1,e2,Yn.mk.injEq];omega
 unfold JC;rw[if_pos ⟨rfl,rfl⟩,e3,if_pos h]
theorem Zax{v:Vt}(h:Xi a.p a.l v=0):JC a (Uq v)=X ⟨v.b,JA a.l v⟩:=by
 have hv:=KR h;obtain⟨s,⟨r,m⟩,k,c,q,nm,x⟩:=v;obtain⟨h1,h2,h3⟩:=hv;unfold ZD at h2;simp only at h1 h2 h3;obtain⟨k',c',q',n',x',rfl,rfl,rfl,rfl,rfl,b1,b2,b3,b4,b5⟩:=Jr h3;have f:∀(i:Nat) (n:Nat),XD (Uq ⟨s,⟨r,m⟩,k',c',q',n',x'⟩) i=n/16777216%256*16777216+n/65536%256*65536+n/256%256*256+n%256->n<4294967296->XD (Uq ⟨s,⟨r,m⟩,k',c',q',n',x'⟩) i=n:=fun i n e hn=>by rw[e];exact RD hn
 have e1:=f 1 s.toNat (by simp[XD,Uq,ZB,Xj]) (by omega);have e2:=f 5 r.toNat (by simp[XD,Uq,ZB,Xj]) (by omega);have e3:=f 9 m.toNat (by simp[XD,Uq,ZB,Xj]) (by omega);have e4:=f 13 k' (by simp[XD,Uq,ZB,Xj]) (by omega);have e5:=f 17 c' (by simp[XD,Uq,ZB,Xj]) (by omega);have e6:=f 21 q' (by simp[XD,Uq,ZB,Xj]) (by omega);have e7:=f 25 n' (by simp[XD,Uq,ZB,Xj]) (by omega);have e8:=f 29 x' (by simp[XD,Uq,ZB,Xj]) (by omega);have hl:(Uq ⟨s,⟨r,m⟩,k',c',q',n',x'⟩).length=33:=rfl;obtain⟨L,hL⟩:=ZN (Uq ⟨s,⟨r,m⟩,k',c',q',n',x'⟩);have h0:L.getD 0 0=2:=by rw[hL];rfl
 rw[<-hL]at e1 e2 e3 e4 e5 e6 e7 e8 hl ⊢;have d4:Qq (L.drop 13)=0:=by
  unfold Qq;rw[if_pos (by rw[cq];omega),QX,QX,QX,QX,QX,e4,e5,e6,e7,e8];exact h3
 have d5:cG (L.drop 13) ⟨((XD L 1:Nat):Int),⟨((XD L 5:Nat):Int),((XD L 9:Nat):Int)⟩,0,0,0,0,0⟩=⟨s,⟨r,m⟩,k',c',q',n',x'⟩:=by
  unfold cG
  dsimp only
  rw[QX,QX,QX,QX,QX,e1,e2,e3,e4,e5,e6,e7,e8,Vt.mk.injEq,Yn.mk.injEq];refine⟨by omega,⟨by omega,by omega⟩,rfl,rfl,rfl,rfl,rfl⟩
 have d6:(⟨((XD L 5:Nat):Int),((XD L 9:Nat):Int)⟩:Yn)=⟨r,m⟩:=by rw[e2,e3,Yn.mk.injEq];omega
 unfold JC;rw[if_neg (by omega),if_pos ⟨hl,h0⟩,if_neg (by rw[d4];decide),d5,d6,if_pos h]
theorem Ce{d:List Nat}{a':UH}{k':Nat}(h:Y2 d a k=X (a',k')):k<k'/\k'<=(H d):=by
 unfold Y2 at h;split at h
 .rename_i q;rw[ba]at h;obtain⟨x,_,e⟩:=h;simp only[Prod.mk.injEq]at e;omega
 .cases h
theorem dG{d e:List Nat}(h:k<(H d)):(d++e).getD k 0=d.getD k 0:=by
 rw[a6,a6,List.getElem?_append_left h]
theorem H8{d e:List Nat}{n:Nat}(h:k+n<=(H d)):((d++e).drop k).take n=(d.drop k).take n:=by
 rw[bp (by omega),a9 (by rw[cq];omega)]
theorem Zay{d:List Nat}{a':UH}{k':Nat}(h:Y2 d a k=X (a',k'))(e:List Nat):Y2 (d++e) a k=X (a',k'):=by
 unfold Y2 at h ⊢;split at h
 .rename_i q;have q1:Vs (d++e) k=Vs d k:=by unfold Vs;rw[dG q.1]
  have h1:1<=Vs d k:=by unfold Vs;omega
  have q2:(TX (((d++e).drop k).take (Vs d k))).take 4=((d++e).drop (k+Vs d k)).take 4:=by
   rw[H8 (by omega),H8 (by omega)];exact q.2.2
  rw[q1,if_pos ⟨by rw[aa];omega,by rw[aa];omega,q2⟩,H8 (by omega),h]
 .cases h
theorem Zaz{d:List Nat}{a':UH}{k':Nat}(h:Y2 d a k=X (a',k')){j:Nat}(hj:k'<=j):Y2 (d.take j) a k=X (a',k'):=by
 unfold Y2 at h ⊢;split at h
 .rename_i q;rw[ba]at h;obtain⟨x,hx,e⟩:=h;simp only[Prod.mk.injEq]at e;obtain⟨e1,e2⟩:=e;have q0:d=d.take j++d.drop j:=(List.take_append_drop j d).symm;have ql:(d.take j).length=min j (H d):=a5;have q1:Vs d k=Vs (d.take j) k:=by
   unfold Vs
   conv=>lhs;rw[q0]
   rw[dG nT]
  have hN:1<=Vs d k:=by unfold Vs;omega
  have m1:∀a n,a+n<=j->a+n<=(H d)->(d.drop a).take n=((d.take j).drop a).take n:=fun a n h1 h2=>by
   conv=>lhs;rw[q0]
   exact H8 nT
  have q2:(TX (((d.take j).drop k).take (Vs d k))).take 4=((d.take j).drop (k+Vs d k)).take 4:=by
   rw[<-m1 _ _ nT nT,<-m1 _ _ nT nT];exact q.2.2
  rw[<-q1,if_pos ⟨nT,nT,q2⟩,<-m1 _ _ nT nT,hx,<-e1,<-e2,cz]
 .cases h
theorem Rec.fits{l:List Nat}{r:UH}{j:Nat}(h:Rec l a k r j):k<=(H l)->k<=j/\j<=(H l):=by
 induction h with
 | stop e=>intro h;omega
 | go e _ ih=>
  intro h;have h1:=Ce e;have h2:=ih h1.2;omega
theorem Rec.app{l e:List Nat}{r r':UH}{j j':Nat}(h:Rec l a k r j)(h2:Rec (l++e) r j r' j'):Rec (l++e) a k r' j':=by
 induction h with
 | stop _=>exact h2
 | go s _ ih=>exact .go (Zay s e) (ih h2)
theorem step_end(l:List Nat)(a:UH):Y2 l a (H l)=Y:=by
 unfold Y2;rw[if_neg nT]
theorem Rec.cut{l:List Nat}{r:UH}{j:Nat}(h:Rec l a k r j):k<=(H l)->Rec (l.take j) a k r j:=by
 induction h with
 | stop e=>
  intro h;rename_i k;have:=step_end (l.take k) ‹UH›;rw[a5,Nat.min_eq_left h]at this;exact .stop this
 | go s h2 ih=>
  intro h;have h1:=Ce s;have h3:=h2.fits h1.2;exact .go (Zaz s h3.1) (ih h1.2)
def Whole(d:List Nat)(a:UH):Prop:=Rec d JJ 0 a (H d)
theorem Whole.nil:Whole [] JJ:=.stop (step_end [] JJ)
theorem Whole.all{d:List Nat}(h:Whole d a):TE d=(a,(H d)):=Nj h
theorem ZaA(d:List Nat){a':UH}{f:List Nat}(hb:JC a f=X a'):Y2 (d++YR f) a (H d)=X (a',(d++YR f).length):=by
 have hl:=Vr f;have e0:YR f=(H f) :: (f++(TX (LF f)).take 4):=rfl;have hN:Vs (d++YR f) (H d)=1+(H f):=by
  unfold Vs;rw[a6,bx (ao _),Nat.sub_self,e0];rfl
 have m1:((d++YR f).drop (H d)).take (1+(H f))=LF f:=by
  rw[cg];unfold YR;rw[a9 (by rw[U1];omega),am (by rw[U1];omega)]
 have m2:((d++YR f).drop ((H d)+(1+(H f)))).take 4=(TX (LF f)).take 4:=by
  rw[<-cB,cg];unfold YR;rw[bp (by rw[U1];omega),List.drop_of_length_le (by rw[U1];omega),List.nil_append,List.take_take];rfl
 have m3:((d++YR f).drop ((H d)+1)).take (1+(H f)-1)=f:=by
  rw[<-cB,cg,e0,List.drop_succ_cons,List.drop_zero,Nat.add_sub_cancel_left,a9 (ao _),am (ao _)]
 unfold Y2;rw[hN,if_pos ⟨by rw[aa];omega,by rw[aa];omega,by rw[m1,m2]⟩,m3,hb];simp only[cz,aa,hl]
 congr 2
 omega
theorem sz(d f:List Nat)(a:UH){m:Nat}(hm:m<(YR f).length):Y2 (d++(YR f).take m) a (H d)=Y:=by
 have hl:=Vr f;have e0:YR f=(H f) :: (f++(TX (LF f)).take 4):=rfl;have ht:((YR f).take m).length=m:=aac;unfold Y2;rw[if_neg];rintro⟨h1,h2,_⟩;rw[aa,ht]at h1 h2;have hN:Vs (d++(YR f).take m) (H d)=1+(H f):=by
  unfold Vs;rw[a6,bx (ao _),Nat.sub_self,List.getElem?_take_of_lt nT,e0];rfl
 omega
theorem Whole.add{d f:List Nat}{a':UH}(h:Whole d a)(hb:JC a f=X a'):Whole (d++YR f) a':=
 Rec.app h (.go (ZaA d hb) (.stop (step_end _ _)))
theorem Whole.Zwn{d f:List Nat}(h:Whole d a){m:Nat}(hm:m<(YR f).length):Rec (d++(YR f).take m) JJ 0 a (H d):=
 Rec.app h (.stop (sz d f a hm))
def WY:Kf->UH
 | .Vy a _ _ _=>a
 | .TC a _ _=>a
 | .Zm a _ _=>a
structure TR(n:Nd):Prop where
 idle:n.up=true->n.Zp=Y->Whole n.data n.Zm/\n.YS=(H n.data)
 busy:n.up=true->∀p,n.Zp=X p->∃d f,n.data=d++YR f/\n.YS=(H d)/\Whole d n.Zm/\JC n.Zm f=X (WY p)
 down:n.up=false->n.Zp=Y/\n.YS=(H n.data)/\∃a j,Rec n.data JJ 0 a j
 len:(H n.data)<=100000
def Ww(n:Nd):UH:=if n.up=true then n.Zm else (TE n.data).1
theorem ZaB(i:Nat):TR (Yl i true [] 0 JJ):=by
 refine⟨fun _ _=>⟨Whole.nil,rfl⟩,fun _ p hp=>(by cases hp),fun h=>(by cases h),by simp[Yl]⟩
theorem jZ(h:TR n)(hu:n.up=true){Ze:Int}(hk:0<=Ze):
  TR (XF i n Ze)/\(XF i n Ze).up=false/\(Ww (XF i n Ze)=n.Zm\/∃p,n.Zp=X p/\Ww (XF i n Ze)=WY p):=by
 have key:∀(d:List Nat) (z:Int) (a:UH) (j:Nat),(H d)<=100000->z=(H d)->Rec d JJ 0 a j->TR (Yl i false d z JJ)/\(Yl i false d z JJ).up=false/\Ww (Yl i false d z JJ)=a:=fun d z a j h1 h2 h3=>by
  refine⟨⟨fun e=>(by cases e),fun e=>(by cases e),fun _=>⟨rfl,h2,a,j,h3⟩,h1⟩,rfl,?_⟩;unfold Ww;rw[if_neg (by simp[Yl])];show (TE d).1=a;rw[Nj h3]
 cases hp:n.Zp with
 | none=>
  obtain⟨h1,h2⟩:=h.idle hu hp;have hl:=h.len;have ec:(UI n.data n.YS Ze).toNat=(H n.data):=by unfold UI;rw[h2];split<;>omega
  have ez:UI n.data n.YS Ze=(H n.data):=by unfold UI;rw[h2];split<;>omega
  have e:XF i n Ze=Yl i false n.data (UI n.data n.YS Ze) JJ:=by
   unfold XF;rw[if_pos hu,if_pos ⟨⟨hl,nT,nT⟩,hk⟩,ec,am (ao _)]
  rw[e];obtain⟨k1,k2,k3⟩:=key n.data _ n.Zm _ hl ez h1;exact⟨k1,k2,.inl k3⟩
 | some p=>
  obtain⟨d,f,h1,h2,h3,h4⟩:=h.busy hu p hp;have hl:=h.len;have uy:(H n.data)=(H d)+(YR f).length:=by rw[h1,aa]
  have c1:((H d):Int)<=UI n.data n.YS Ze/\UI n.data n.YS Ze<=(H n.data):=by unfold UI;rw[h2];split<;>omega
  obtain⟨C,hC⟩:∃C:Nat,UI n.data n.YS Ze=C:=⟨(UI n.data n.YS Ze).toNat,nT⟩
  have e:XF i n Ze=Yl i false (n.data.take C) C JJ:=by
   unfold XF;rw[if_pos hu,if_pos ⟨⟨hl,nT,nT⟩,hk⟩,hC];rfl
  have htl:(n.data.take C).length=C:=aac;rw[e];by_cases hw:C=(H n.data)
  .have et:n.data.take C=n.data:=am nT;rw[et];have:=h3.add h4;rw[<-h1]at this;obtain⟨k1,k2,k3⟩:=key n.data C (WY p) _ hl nT this;exact⟨k1,k2,.inr ⟨p,rfl,k3⟩⟩
  .have et:n.data.take C=d++(YR f).take (C-(H d)):=by
    rw[h1,List.take_append,am nT]
   have:=h3.Zwn (f:=f) (m:=C-(H d)) nT;rw[<-et]at this;obtain⟨k1,k2,k3⟩:=key (n.data.take C) C n.Zm _ nT nT this;exact⟨k1,k2,.inl k3⟩
theorem j1(h:TR n)(hu:n.up=false):
  TR (started i n)/\(started i n).up=true/\(started i n).Zm=Ww n:=by
 obtain⟨h1,h2,a,j,h3⟩:=h.down hu;have hl:=h.len;have hj:=h3.fits (bG _);have ea:=Nj h3;have Zwo:=h3.cut (bG _);have JS:(n.data.take j).length=j:=aac;have ok:YX n.data n.YS:=⟨hl,nT,nT⟩
 have eD:Fw n.data n.YS=n.data.take j:=by unfold Fw;rw[if_pos ok,ea]
 have eN:jw n.data n.YS=j:=by
  unfold jw;rw[if_pos ok,ea];simp only;split<;>omega
 have ok2:YX (n.data.take j) (j:Int):=⟨nT,nT,nT⟩
 have hw:Whole (n.data.take j) a:=by unfold Whole;rw[JS];exact Zwo
 have eo:(if YX (Fw n.data n.YS) (jw n.data n.YS) then (TE (Fw n.data n.YS)).1 else JJ)=a:=by
  rw[eD,eN,if_pos ok2,hw.all]
 have e:started i n=Yl i true (n.data.take j) j a:=by
  unfold started;rw[if_neg (by rw[hu];decide),eo,eD,eN]
 rw[e];refine⟨⟨fun _ _=>⟨hw,by show (j:Int)=((n.data.take j).length:Nat);omega⟩,fun _ p hp=>(by cases hp),fun h=>(by cases h),by show (n.data.take j).length<=100000;omega⟩,rfl,?_⟩;show a=Ww n;unfold Ww;rw[if_neg (by rw[hu];decide),ea]
