/- Part Txb. -/
import Derived.Test.YthlfaofofaphfaaGreatDoorMdh
import Derived.Test.YthlfaofofaphfaaGreatDoorLchks
import Derived.Test.YthlfaofofaphfaaGreatDoorPak
open Go.Value renaming slice→U,int→W,bool→aw,pointer→a1,agg→a2
open Go.IntKind renaming i64→O
open Go.Obj renaming cells→al
open Go.Proofs.Tryz renaming prog→ba
open List renaming length→H,length_append→aa,take_of_length_le→aI,length_cons→a5,mem_append→a6,length_take→a8,getD_eq_getElem?_getD→a9,take_append_of_le_length→bc,mem_filter→be,length_erase_of_mem→bf,foldl_cons→bg,length_pos_of_mem→bk,mem_range→bl,length_singleton→bp,drop_append_of_le_length→bw,filter_sublist→bz,getElem?_append_right→bB,mem_cons→bS,getElem?_eq_getElem→bT,mem_of_mem_eraseIdx→b6,mem_flatMap→b8,getElem_mem→ca,length_map→cg,mem_erase_of_ne→ch,drop_left→co,pairwise_cons→cp,nodup_append→cq,mem_map→cr,foldl_append→cu,length_drop→cx,nodup_cons→cy,range_succ→cA,map_append→cB,range→cR,drop_drop→cS
open Nat renaming le_refl→aU,lt_of_lt_of_le→bh,le_trans→bo,mul_le_mul_right→br,le_succ→bG,zero_le→bR
open Int renaming tmod_eq_emod_of_nonneg→bA
open Option renaming map_eq_some_iff→bd,map_some→cP,some→X,none→Y
open Array renaming getElem?_setIfInBounds→bx,size_push→cz
open Classical renaming byContradiction→a0
open Go renaming Value→am,World→bK
namespace Go.Proofs.YthlfaofofaphfaaGreatDoor
open Go Go.V
set_option linter.unusedSimpArgs false
set_option linter.unusedVariables false
variable{a:UC}{b:Yw}{i k:Nat}{n:Nd}
def Tx(l:List Vt):Prop:=(∀x∈l,Ym x)/\l.Pairwise (fun a b=>a.Zu<b.Zu)
structure EL(a:UC):Prop where
 bal:ZF a.p\/(a.p.r=0/\a.p.n=0)
 Y5:Tx a.l
def Lz(b:Yw):Prop:=0<=b.r/\b.r<=65536
theorem jl:∀(l:List Vt) (a:Int),l.Pairwise (fun a b=>a.Zu<b.Zu)->(∀x∈l,a<=x.Zu/\x.Zu<=39)->a<=40->((H l):Int)<=40-a:=by
 intro l
 induction l with
 | nil=>intro a _ _ h;simp;omega
 | cons x l ih=>
  intro a hp hx ha;rw[cp]at hp;have h1:=hx x Hg;have:=ih (x.Zu+1) hp.2 (fun y hy=>⟨by have:=hp.1 y hy;omega,(hx y (by simp[hy])).2⟩) nc;simp only[a5];omega
theorem Tx.len{l:List Vt}(h:Tx l):(H l)<=40:=by
 have:=jl l 0 h.2 (fun x hx=>⟨(h.1 x hx).1.1,(h.1 x hx).1.2⟩) nc;omega
theorem Tx.nil:Tx []:=⟨fun x hx=>by (cases hx),.nil⟩
theorem Tx.ins{l:List Vt}(h:Tx l){v:Vt}(hv:Ym v):Tx (Jz l v):=by
 unfold Jz;refine⟨fun x hx=>?_,?_⟩
 .rcases a6.1 hx with hx|hx
  .exact h.1 x (be.1 hx).1
  .rcases bS.1 hx with rfl|hx
   .exact hv
   .exact h.1 x (be.1 hx).1
 .rw[List.pairwise_append,cp];refine⟨h.2.sublist bz,⟨fun y hy=>by simpa using (be.1 hy).2,h.2.sublist bz⟩,fun x hx y hy=>?_⟩;have h1:x.Zu<v.Zu:=by simpa using (be.1 hx).2
  rcases bS.1 hy with rfl|hy
  .exact h1
  .have h2:v.Zu<y.Zu:=by simpa using (be.1 hy).2
   omega
theorem EL.zero:EL JE:=⟨.inr ⟨rfl,rfl⟩,Tx.nil⟩
theorem ZF.I(h:ZF b):Lz b:=⟨by have:=h.1.1;omega,h.1.2⟩
theorem EL.rh(h:EL a):Lz a.p:=by
 rcases h.bal with q|q
 .exact q.I
 .unfold Lz;omega
structure Ua(C:List Cm)(l:YF):Prop where
 Z7:0<=l.Z7/\l.Z7<=7
 Jq:0<=l.Jq/\l.Jq<5
 to:0<=l.to/\l.to<5
 b:Lz l.b
 Zu:0<=l.v.Zu/\l.v.Zu<40
 vs:Tx l.vs
 cmd:l.Z7=4->l.v.cm∈C
def Sz{β:Type}(m:Int)(l:List (Int × β)):Prop:=(l.map (·.1)).Nodup/\∀x∈l.map (·.1),0<=x/\x<m
theorem Sz.nil{β:Type}(m:Int):Sz m ([]:List (Int × β)):=⟨Hg,fun x hx=>by (cases hx)⟩
theorem Sz.ins{β:Type}{m:Int}{l:List (Int × β)}(h:Sz m l){k:Int}(hk:0<=k/\k<m)(v:β):Sz m (ins l k v):=by
 obtain⟨h1,h2⟩:=bQ (k:=k) (v:=v) h.1;refine⟨h1,fun x hx=>?_⟩;rcases h2 x hx with rfl|q
 .exact hk
 .exact h.2 x q
theorem rn:∀(m:Nat) (l:List Int),l.Nodup->(∀x∈l,0<=x/\x<(m:Int))->(H l)<=m:=by
 intro m
 induction m with
 | zero=>
  intro l _ h
  cases l with
  | nil=>simp
  | cons x l=>have:=h x Hg;omega
 | succ m ih=>
  intro l hn h;have h1:=ih (l.erase (m:Int)) (hn.erase _) (fun x hx=>by
   have hx':=(List.Nodup.mem_erase_iff hn).1 hx;have:=h x hx'.2;have:x≠(m:Int):=hx'.1;omega)
  have:(H l)<=(l.erase (m:Int)).length+1:=by rw[List.length_erase];split<;>omega
  omega
theorem Sz.len{β:Type}{m:Nat}{l:List (Int × β)}(h:Sz (m:Int) l):(H l)<=m:=by
 have:=rn m _ h.1 h.2
 simpa using this
structure Mh(r:Xw):Prop where
 b:Lz r.b
 ZI:Sz 5 r.ZI
 vs:∀x∈r.ZI,Tx x.2
 Rg:∀x∈r.Y5,Sz 5 x.2
def Zml:LV->Prop
 | .VB a to b vs=>EL a/\(0<=to/\to<5)/\Lz b/\Tx vs
 | .TC a to v=>EL a/\(0<=to/\to<5)/\Ym v
 | .Zq a vs _=>EL a/\Tx vs
structure Ub(C:List Cm)(i:Nat)(n:Nd):Prop where
 me:n.me=i
 Ys:0<=n.Ys/\n.Ys<5
 Zq:EL n.Zq
 YX:Lz n.YX
 Zs:∀p,n.Zs=X p->Zml p
 Zh:∀r,n.Zh=X r->Mh r
 Zi:Sz 40 n.Zi
 ZB:∀j,j<n.ZB.length->(Yh n.Zi (j:Int)).isSome=true
 Zx:n.Zx.Nodup/\∀x∈n.Zx,x∈C
 data:(H n.data)<=100000
theorem Ub.Kz{C:List Cm}(h:Ub C i n):n.ZB.length<=40:=by
 have h1:=Fm n.Zi 0 n.ZB.length (fun j hj=>by simpa using h.ZB j hj);have h2:=h.Zi.len (m:=40);omega
theorem OU{p:Yw}{l:List Vt}(h:YG p l b=0):ZF b:=by
 unfold YG at h;by_cases c1:Jy p l≠0
 .rw[if_pos c1]at h;cases h
 .rw[if_neg c1]at h;by_cases c2:¬ZF b
  .rw[if_pos c2]at h;cases h
  .simpa using c2
theorem KA{p:Yw}{l:List Vt}{x:Vt}(h:Xj p l x=0):Ym x:=by
 unfold Xj at h;by_cases c1:Jy p l≠0
 .rw[if_pos c1]at h;cases h
 .rw[if_neg c1]at h;by_cases c2:¬Ym x
  .rw[if_pos c2]at h;cases h
  .simpa using c2
theorem cH{l:List Nat}{n:Int}(h:Qt l n k=0):(H l)+(k+5)<=100000:=by
 unfold Qt at h;by_cases c1:¬YW l n
 .rw[if_pos c1]at h;cases h
 .rw[if_neg c1]at h;by_cases c2:100000<(H l)+(k+5)
  .rw[if_pos c2]at h;cases h
  .omega
theorem LA{l:List Nat}{n:Int}(h:Ji l n b=0):(H l)+14<=100000:=by
 unfold Ji at h;by_cases c1:¬YW l n
 .rw[if_pos c1]at h;cases h
 .rw[if_neg c1]at h;by_cases c2:¬ZF b
  .rw[if_pos c2]at h;cases h
  .rw[if_neg c2]at h;exact cH h
theorem cI{l:List Nat}{n:Int}{x:Vt}(h:QZ l n x=0):(H l)+38<=100000:=by
 unfold QZ at h;by_cases c1:¬YW l n
 .rw[if_pos c1]at h;cases h
 .rw[if_neg c1]at h;by_cases c2:¬Ym x
  .rw[if_pos c2]at h;cases h
  .rw[if_neg c2]at h;exact cH h
theorem OV(b:Yw):(YS (JL b)).length=14:=by rw[Vg];rfl
theorem BC(x:Vt):(YS (Up x)).length=38:=by rw[Vg];rfl
structure RQ(C:List Cm)(i:Nat)(n:Nd)(o:Out):Prop where
 nd:Ub C i o.n
 ls:∀l∈o.ls,Ua C l
 few:(H o.ls)<=1
 ts:(H o.ts)+o.n.Zj.length<=n.Zj.length
theorem RQ.same{C:List Cm}(h:Ub C i n):RQ C i n ⟨n,[],[]⟩:=⟨h,(fun l hl=>by cases hl),Hg,Hg⟩
theorem RQ.one{C:List Cm}(h:Ub C i n){l:YF}(hl:Ua C l):RQ C i n ⟨n,[l],[]⟩:=⟨h,fun x hx=>by
 have:x=l:=by simpa using hx
 rw[this];exact hl,Hg,Hg⟩
theorem jm{C:List Cm}{l:YF}(hi:i<5)(h:Ub C i n)(hl:Ua C l):RQ C i n (YB n l):=by
 have Ab:0<=(n.me:Int)/\(n.me:Int)<5:=by rw[h.me];omega
 have v0:0<=St.Zu/\St.Zu<40:=aaa;unfold YB;by_cases c1:YG n.Zq.p n.Zq.l l.b≠0
 .rw[if_pos c1];exact RQ.one h ⟨Hg,Ab,hl.Jq,h.Zq.rh,v0,Tx.nil,fun e=>by cases e⟩
 rw[if_neg c1];have hb:ZF l.b:=OU (by simpa using c1);by_cases c2:n.Zq.p=l.b
 .rw[if_pos c2];exact RQ.one h ⟨Hg,Ab,hl.Jq,hl.b,v0,h.Zq.Y5,fun e=>by cases e⟩
 rw[if_neg c2];by_cases c3:Ji n.data n.YZ l.b≠0
 .rw[if_pos c3];exact RQ.same h
 rw[if_neg c3];have hd:=LA (by simpa using c3);refine⟨{ h with Zs:=?_,data:=?_ },(fun x hx=>by cases hx),Hg,Hg⟩
 .intro p hp;obtain rfl:=Option.some.inj hp;exact⟨⟨.inl hb,h.Zq.Y5⟩,hl.Jq,hb.I,h.Zq.Y5⟩
 .show (n.data++YS (JL l.b)).length<=100000;rw[aa,OV];exact hd
theorem Zdu{C:List Cm}{l:YF}(hi:i<5)(h:Ub C i n)(hl:Ua C l):RQ C i n (asked n l):=by
 have Ab:0<=(n.me:Int)/\(n.me:Int)<5:=by rw[h.me];omega
 have v0:0<=St.Zu/\St.Zu<40:=aaa;unfold asked;by_cases c1:Xj n.Zq.p n.Zq.l l.v≠0
 .rw[if_pos c1];exact RQ.one h ⟨Hg,Ab,hl.Jq,h.Zq.rh,v0,Tx.nil,fun e=>by cases e⟩
 rw[if_neg c1];have hv:Ym l.v:=KA (by simpa using c1);by_cases c2:l.v∈n.Zq.l
 .rw[if_pos c2];exact RQ.one h ⟨Hg,Ab,hl.Jq,by unfold Lz Jj;simp,hl.Zu,Tx.nil,fun e=>by cases e⟩
 rw[if_neg c2];by_cases c3:QZ n.data n.YZ l.v≠0
 .rw[if_pos c3];exact RQ.same h
 rw[if_neg c3];have hd:=cI (by simpa using c3);refine⟨{ h with Zs:=?_,data:=?_ },(fun x hx=>by cases hx),Hg,Hg⟩
 .intro p hp;obtain rfl:=Option.some.inj hp;exact⟨⟨.inl hv.2.1,h.Zq.Y5.ins hv⟩,hl.Jq,hv⟩
 .show (n.data++YS (Up l.v)).length<=100000;rw[aa,BC];exact hd
theorem zI{C:List Cm}{x:Cm}(h:Ub C i n)(hx:Yh n.Zi (n.ZB.length:Int)=X x):Ub C i (JU n x)/\(WJ n x).length+(JU n x).Zj.length<=n.Zj.length:=by
 refine⟨{ h with ZB:=?_,Zx:=?_ },?_⟩
 .intro j hj;have hj':j<(n.ZB++[x]).length:=hj;show (Yh n.Zi (j:Int)).isSome=true;rw[aa,bp]at hj';by_cases e:j<n.ZB.length
  .exact h.ZB j e
  .have:j=n.ZB.length:=nc;subst this;rw[hx];rfl
 .exact⟨h.Zx.1.sublist bz,fun y hy=>h.Zx.2 y (be.1 hy).1⟩
 .show (WJ n x).length+(n.Zj.erase x).length<=n.Zj.length;unfold WJ;by_cases c:x∈n.Zj
  .rw[if_pos c,bf c];have:=bk c;simp;omega
  .rw[if_neg c,List.erase_of_not_mem c];simp
theorem rq{C:List Cm}:∀(k:Nat) (n:Nd),Ub C i n->Ub C i (Yg k n).1/\(Yg k n).2.length+(Yg k n).1.Zj.length<=n.Zj.length:=by
 intro k
 induction k with
 | zero=>intro n h;exact⟨h,by simp[Yg]⟩
 | succ k ih=>
  intro n h;unfold Yg
  cases hx:Yh n.Zi (n.ZB.length:Int) with
  | none=>exact⟨h,Hg⟩
  | some x=>
   obtain⟨h1,h2⟩:=zI h hx;obtain⟨h3,h4⟩:=ih _ h1;refine⟨h3,?_⟩;simp only[aa];omega
theorem mB{C:List Cm}(h:Ub C i n)(s:Int)(x:Cm)(hs:0<=s/\s<40):RQ C i n (Jg n s x):=by
 have h1:Ub C i (Jf n s x):={ h with
  Zi:=h.Zi.ins hs x
  ZB:=fun j hj=>by
   show (Yh (ins n.Zi s x) (j:Int)).isSome=true;rw[Xf];split
   .rfl
   .exact h.ZB j hj }
 obtain⟨h2,h3⟩:=rq ((Jf n s x).Zi.length+1) (Jf n s x) h1;exact⟨h2,(fun l hl=>by cases hl),by simp[Jg],h3⟩
theorem Fx{β:Type}:∀{l:List (Int × β)} {k:Int} {v:β} {x:Int × β},x∈ins l k v->x.2=v\/x∈l:=by
 intro l
 induction l with
 | nil=>
  intro k v x hx;left;have:x=(k,v):=by simpa [ins] using hx
  rw[this]
 | cons y l ih=>
  intro k v x hx;obtain⟨a,b⟩:=y;unfold ins at hx;split at hx
  .rcases bS.1 hx with rfl|hx
   .exact .inl rfl
   .exact .inr (by simp[hx])
  .rcases bS.1 hx with rfl|hx
   .exact .inr Hg
   .rcases ih hx with q|q
    .exact .inl q
    .exact .inr (by simp[q])
theorem jn{C:List Cm}{l:YF}(hi:i<5)(h:Ub C i n)(hl:Ua C l):RQ C i n (Yl n l):=by
 unfold Yl
 cases hr:n.Zh with
 | none=>exact RQ.same h
 | some r=>
  have R:=h.Zh r hr;have hs:∀r',(Tq n r l).Zh=X r'->Mh r':=by
   intro r' UZ;obtain rfl:=Option.some.inj UZ;refine⟨R.b,R.ZI,R.vs,fun x hx=>?_⟩;rcases Fx hx with q|q
   .rw[q];unfold Q2;refine Sz.ins ?_ hl.Jq ()
    cases hk:Yh r.Y5 l.v.Zu with
    | none=>exact Sz.nil 5
    | some s=>exact R.Rg _ (Rx hk)
   .exact R.Rg x q
  have hv:Ub C i (Tq n r l):={ h with Zh:=hs }
  simp only;split
  .split
   .refine⟨{ h with Zh:=fun r' UZ=>?_ },(fun x hx=>by cases hx),Hg,by simp[ZcV]⟩;obtain rfl:=Option.some.inj UZ;refine⟨R.b,R.ZI.ins hl.Jq l.vs,fun x hx=>?_,R.Rg⟩;rcases Fx hx with q|q
    .rw[q];exact hl.vs
    .exact R.vs x q
   .exact RQ.same h
  .split
   .exact RQ.same h
   .split
    .have:=mB hv l.v.Zu l.v.cm hl.Zu;exact⟨this.nd,this.ls,this.few,this.ts⟩
    .exact⟨hv,(fun x hx=>by cases hx),Hg,by simp[Tq]⟩
theorem Ze7{C:List Cm}{x:Cm}(h:Ub C i n)(hx:x∈C):Ub C i (add n x):=by
 unfold add;split
 .exact h
 .rename_i q;refine { h with Zx:=⟨?_,fun y hy=>?_⟩ }
  .show (n.Zx++[x]).Nodup;rw[cq];refine⟨h.Zx.1,Hg,fun a ha b hb e=>?_⟩;have:b=x:=by simpa using hb
   exact q (.inl (by rw[<-this,<-e];exact ha))
  .have hy:y∈n.Zx++[x]:=hy;rcases a6.1 hy with hy|hy
   .exact h.Zx.2 y hy
   .have:y=x:=by simpa using hy
    rw[this];exact hx
theorem mC{C:List Cm}{l:YF}(h:Ub C i n)(hl:Ua C l):Ub C i (Xs n l):=by
 unfold Xs;split
 .exact { h with YX:=hl.b }
 .exact h
theorem Zdv{C:List Cm}{l:YF}(hi:i<5)(h:Ub C i n)(hl:Ua C l):RQ C i n (Qp n l):=by
 have Ab:0<=(n.me:Int)/\(n.me:Int)<5:=by rw[h.me];omega
 have hn:=mC h hl;have hw:(Xs n l).Zj=n.Zj:=by unfold Xs;split<;>rfl
 unfold Qp;split
 .next y _=>
  refine⟨hn,fun x hx=>?_,Hg,by simp[hw]⟩;have:x=⟨6,n.me,l.Jq,Jj,QB l.v.Zu Jj y,[]⟩:=by simpa using hx
  rw[this];exact⟨Hg,Ab,hl.Jq,by unfold Lz Jj;simp,hl.Zu,Tx.nil,fun e=>by cases e⟩
 .exact⟨hn,(fun x hx=>by cases hx),Hg,by simp[hw]⟩
theorem LB{C:List Cm}{l:YF}(hi:i<5)(h:Ub C i n)(hl:Ua C l):RQ C i n (Zw n l):=by
 have hw:(Xs n l).Zj=n.Zj:=by unfold Xs;split<;>rfl
 unfold Zw;split
 .exact jm hi h hl
 split
 .exact jn hi h hl
 split
 .exact Zdu hi h hl
 split
 .rename_i e;refine⟨Ze7 h (hl.cmd e),(fun x hx=>by cases hx),Hg,?_⟩;have:(add n l.v.cm).Zj=n.Zj:=by unfold add;split<;>rfl
  simp[this]
 split
 .exact Zdv hi h hl
 split
 .exact mB h _ _ hl.Zu
 .exact⟨mC h hl,(fun x hx=>by cases hx),Hg,by simp[hw]⟩
theorem Ub.Zg{C:List Cm}(h:Ub C i n)(k:List YF):Ub C i { n with Zg:=k }:={ h with }
theorem mD{C:List Cm}(hi:i<5):∀(k:List YF) (n:Nd),Ub C i n->(∀l∈k,Ua C l) ->
  Ub C i (ZA n k).n/\(∀l∈(ZA n k).ls,Ua C l)/\(∀l∈(ZA n k).n.Zg,Ua C l)/\(ZA n k).ls.length+(ZA n k).n.Zg.length<=(H k)/\(ZA n k).ts.length+(ZA n k).n.Zj.length<=n.Zj.length:=by
 intro k
 induction k with
 | nil=>
  intro n h _;unfold ZA;exact⟨h.Zg [],(fun x hx=>by cases hx),(fun x hx=>by cases hx),Hg,Hg⟩
 | cons l k ih=>
  intro n h hk;unfold ZA;split
  .exact⟨h.Zg _,(fun x hx=>by cases hx),hk,Hg,Hg⟩
  .have o:=LB hi (h.Zg k) (hk l Hg);obtain⟨h1,h2,h3,h4,h5⟩:=ih _ o.nd (fun x hx=>hk x (by simp[hx]));have ots:=o.ts;have of:=o.few;refine⟨h1,fun x hx=>?_,h3,?_,?_⟩
   .rcases a6.1 hx with hx|hx
    .exact o.ls x hx
    .exact h2 x hx
   .simp only[aa,a5];omega
   .simp only[aa];have:({ n with Zg:=k }:Nd).Zj=n.Zj:=rfl;rw[this]at ots;omega
theorem OW:∀{l C:List Cm},l.Nodup->(∀x∈l,x∈C)->(H l)<=(H C):=by
 intro l
 induction l with
 | nil=>intro C _ _;simp
 | cons x l ih=>
  intro C hn hs;rw[cy]at hn;have hx:=hs x Hg;have h1:=ih (C:=C.erase x) hn.2 (fun y hy=>by
   have Y4:y≠x:=fun e=>hn.1 (by rw[<-e];exact hy);exact (ch Y4).2 (hs y (by simp[hy])))
  rw[bf hx]at h1;have:=bk hx;simp only[a5];omega
theorem Ub.hand{C:List Cm}{l:YF}(h:Ub C i n)(hl:Ua C l)(hC:(H C)<=100000)(hw:n.Zj.length<=100000){f t:Nat}(hf:f<=100000000000)(ht:t<=1000000):jd n l f t:=by
 have Kv:=h.Kz;have tD:=h.Zi.len (m:=40);have hq:n.Zx.length<=(H C):=OW h.Zx.1 h.Zx.2;refine⟨hl.Z7,nc,by have:=h.Zq.Y5.len;omega,by have:=h.data;omega,nc,nc,nc,nc,nc,fun r s hr=>?_⟩
 cases hk:Yh r.Y5 s with
 | none=>simp
 | some x=>
  have:=(h.Zh r hr).Rg _ (Rx hk);have:(H x)<=5:=this.len (m:=5);simp only[Option.getD_some];omega
theorem Ub.dut{C:List Cm}(h:Ub C i n)(hC:(H C)<=100000){f:Nat}(hf:f<=100000000000):zD n f:=by
 have Kv:=h.Kz;have hq:n.Zx.length<=(H C):=OW h.Zx.1 h.Zx.2;refine⟨nc,by have:=h.Zq.Y5.len;omega,by have:=h.data;omega,fun r hr=>?_,nc,nc,h.Ys⟩;have R:=h.Zh r hr;have hp:r.ZI.length<=5:=R.ZI.len (m:=5);refine⟨fun x hx=>by have:=(R.vs x hx).len;omega,fun x hx v hv=>?_,nc⟩;have:=((R.vs x hx).1 v hv).1.2;omega
theorem zK{C:List Cm}(hi:i<5)(hC:(H C)<=100000):∀(k:List YF) (n:Nd),Ub C i n->(∀l∈k,Ua C l)->n.Zj.length<=100000->∀f t,f+(H k)<=100000000000->t+n.Zj.length<=1000000->OS n k f t:=by
 intro k
 induction k with
 | nil=>intro n _ _ _ f t _ _;exact trivial
 | cons l k ih=>
  intro n h hk hw f t hf ht;simp only[a5]at hf;unfold OS;by_cases hp:n.Zs.isSome=true
  .exact .inl hp
  .have o:=LB hi (h.Zg k) (hk l Hg);have ots:=o.ts;have of:=o.few;have:({ n with Zg:=k }:Nd).Zj=n.Zj:=rfl;rw[this]at ots;exact .inr ⟨(h.Zg k).hand (hk l Hg) hC hw nc nc,ih _ o.nd (fun x hx=>hk x (by simp[hx])) nc _ _ nc nc⟩
theorem zL{C:List Cm}(hi:i<5)(hC:(H C)<=100000)(h:Ub C i n)(hk:∀l∈n.Zg,Ua C l)(hw:n.Zj.length<=100000){f t:Nat}(hf:f+n.Zg.length<=100000000000)(ht:t+n.Zj.length<=1000000):je n f t:=by
 obtain⟨h1,h2,h3,h4,h5⟩:=mD hi n.Zg n h hk;exact⟨by have:=h.data;omega,nc,fun _=>zK hi hC n.Zg n h hk hw f t hf ht,fun _ _=>h1.dut hC nc⟩
theorem Zdw{r:Xw}{x:Cm}(R:Mh r):Mh (J4 n r x):=by
 unfold J4;split
 .exact⟨R.b,R.ZI,R.vs,R.Rg⟩
 .exact R
theorem ru:∀(l:List Cm) (r:Xw),Mh r->Mh (Jd n r l):=by
 intro l
 induction l with
 | nil=>intro r R;exact R
 | cons x l ih=>intro r R;exact ih _ (Zdw R)
theorem Zdx{r:Xw}(R:Mh r):Mh (X2 n r):=by
 unfold X2;refine ru _ _ ?_;split
 .exact R
 .exact⟨R.b,R.ZI,R.vs,R.Rg⟩
theorem BD:Lz Jj:=by unfold Lz Jj;simp
theorem Zho{C:List Cm}{r:Xw}(hi:i<5)(h:Ub C i n)(R:Mh r):Ub C i (JM n r).n/\(∀l∈(JM n r).ls,Ua C l)/\(JM n r).n.Zg=n.Zg/\(JM n r).n.Zj=n.Zj:=by
 have Ab:0<=(n.me:Int)/\(n.me:Int)<5:=by rw[h.me];omega
 have v0:0<=St.Zu/\St.Zu<40:=aaa;unfold JM;split
 .split
  .exact⟨h,(fun x hx=>by cases hx),rfl,rfl⟩
  .rename_i hd;have hd:=LA (by simpa using hd);refine⟨{ h with Zs:=?_,data:=?_ },(fun x hx=>by cases hx),rfl,rfl⟩
   .intro p hp;obtain rfl:=Option.some.inj hp;by_cases c:YG n.Zq.p n.Zq.l r.b=0
    .simp only[c,if_true];exact⟨⟨.inl (OU c),h.Zq.Y5⟩,h.Zq.Y5⟩
    .simp only[c,if_false];exact⟨EL.zero,Tx.nil⟩
   .show (n.data++YS (JL r.b)).length<=100000;rw[aa,OV];exact hd
 .split
  .refine⟨h,fun l hl=>?_,rfl,rfl⟩;unfold RN at hl;simp only[b8,bl]at hl;obtain⟨m,hm,hl⟩:=hl;split at hl
   .have:l=⟨0,n.me,m,r.b,St,[]⟩:=by simpa using hl
    rw[this];exact⟨Hg,Ab,by simp only;omega,R.b,v0,Tx.nil,fun e=>by cases e⟩
   .cases hl
  .refine⟨{ h with Zh:=fun r' UZ=>?_ },fun l hl=>?_,rfl,rfl⟩
   .obtain rfl:=Option.some.inj UZ;exact Zdx R
   .unfold Tt at hl;simp only[b8,bl]at hl;obtain⟨s,hs,hl⟩:=hl;unfold Vx at hl;split at hl
    .split at hl
     .simp only[b8,bl]at hl;obtain⟨m,hm,hl⟩:=hl;unfold Pk at hl;split at hl
      .next x _ _ _=>
       have:l=⟨2,n.me,m,Jj,QB s (X2 n r).b x,[]⟩:=by simpa using hl
       rw[this];exact⟨Hg,Ab,by simp only;omega,BD,by simp only[QB];omega,Tx.nil,fun e=>by cases e⟩
      .cases hl
     .cases hl
    .cases hl
theorem mE{C:List Cm}(h:Ub C i n):Ub C i (Zo n)/\(Zo n).Zg=n.Zg/\(Zo n).Zj=n.Zj:=by
 unfold Zo;split
 .split
  .exact⟨{ h with Zh:=fun r hr=>by cases hr },rfl,rfl⟩
  .exact⟨h,rfl,rfl⟩
 .exact⟨h,rfl,rfl⟩
theorem Zdy{C:List Cm}(hi:i<5)(h:Ub C i n):Ub C i (Z9 n).n/\(∀l∈(Z9 n).ls,Ua C l)/\(Z9 n).n.Zg=n.Zg/\(Z9 n).n.Zj=n.Zj:=by
 have Ab:0<=(n.me:Int)/\(n.me:Int)<5:=by rw[h.me];omega
 unfold Z9;split
 .next r hr=>exact Zho hi h (h.Zh r hr)
 .split
  .rename_i q;refine⟨h,fun l hl=>?_,rfl,rfl⟩;unfold Wu at hl;simp only[cr]at hl;obtain⟨x,hx,rfl⟩:=hl;have hb:ZF n.Zq.p:=by
    rcases h.Zq.bal with e|e
    .exact e
    .have:=q.1;omega
   exact⟨Hg,Ab,by simp only;have:=hb.2;omega,BD,by simp[QB],Tx.nil,fun _=>h.Zx.2 x hx⟩
  .exact⟨h,(fun x hx=>by cases hx),rfl,rfl⟩
theorem Zdz{C:List Cm}(h:Ub C i n):Lz (Vi n):=by
 unfold Vi;split
 .exact h.YX
 .exact h.Zq.rh
theorem jo{C:List Cm}(hi:i<5)(hC:(H C)<=100000)(h:Ub C i n):Ub C i (Yp n).n/\(∀l∈(Yp n).ls,Ua C l)/\(Yp n).n.Zg=n.Zg/\(Yp n).n.Zj=n.Zj/\(Yp n).ls.length<=100201/\(Yp n).ts=[]:=by
 obtain⟨s1,s2,s3⟩:=mE h;obtain⟨d1,d2,d3,d4⟩:=Zdy hi s1;have hq:(Zo n).Zx.length<=(H C):=OW s1.Zx.1 s1.Zx.2;have hls:=bZ (Zo n);unfold Yp;split
 .exact⟨d1,d2,by rw[d3,s2],by rw[d4,s3],nc,(Mg _).2.2.2.2.2⟩
 .have tt:0<=((Z9 (Zo n)).n.Ys+1)%5/\((Z9 (Zo n)).n.Ys+1)%5<5:=nc;have t1:Ub C i (JW (Z9 (Zo n)).n):={ d1 with Ys:=tt }
  have Ab:0<=((JW (Z9 (Zo n)).n).me:Int)/\((JW (Z9 (Zo n)).n).me:Int)<5:=by rw[t1.me];omega
  refine⟨t1,fun l hl=>?_,by show (Z9 (Zo n)).n.Zg=_;rw[d3,s2],by show (Z9 (Zo n)).n.Zj=_;rw[d4,s3],?_,rfl⟩
  .rcases a6.1 hl with hl|hl
   .exact d2 l hl
   .unfold UI at hl;split at hl
    .rename_i q;have:l=⟨5,(JW (Z9 (Zo n)).n).me,(JW (Z9 (Zo n)).n).Ys,Vi (JW (Z9 (Zo n)).n),QB (JW (Z9 (Zo n)).n).ZB.length Jj IB,[]⟩:=by simpa using hl
     rw[this];exact⟨Hg,Ab,t1.Ys,Zdz t1,by simp only[QB];have:=q.2;omega,Tx.nil,fun e=>by cases e⟩
    .cases hl
  .have:(UI (JW (Z9 (Zo n)).n)).length<=1:=by unfold UI;split<;>simp
   simp only[aa];omega
theorem Fy{C:List Cm}(h:Ub C i n):Ub C i (ZO n):=by
 refine { h with Zs:=(fun p hp=>by cases hp),data:=?_ };show (if YW n.data n.YZ then n.data else []).length<=100000;split
 .exact h.data
 .simp
theorem Fz{C:List Cm}{p:LV}(hi:i<5)(h:Ub C i n)(P:Zml p):Ub C i (YK n p).n/\(∀l∈(YK n p).ls,Ua C l)/\(YK n p).n.Zg=n.Zg/\(YK n p).n.Zj=n.Zj/\(YK n p).ls.length<=1/\(YK n p).ts=[]:=by
 have Ab:0<=(n.me:Int)/\(n.me:Int)<5:=by rw[h.me];omega
 have v0:0<=St.Zu/\St.Zu<40:=aaa
 cases p with
 | VB a to b vs=>
  obtain⟨p1,p2,p3,p4⟩:=P;refine⟨{ h with Zq:=p1 },fun l hl=>?_,rfl,rfl,by simp[YK],rfl⟩;have:l=⟨1,n.me,to,b,St,vs⟩:=by simpa [YK] using hl
  rw[this];exact⟨Hg,Ab,p2,p3,v0,p4,fun e=>by cases e⟩
 | TC a to v=>
  obtain⟨p1,p2,p3⟩:=P;refine⟨{ h with Zq:=p1 },fun l hl=>?_,rfl,rfl,by simp[YK],rfl⟩;have:l=⟨3,n.me,to,Jj,v,[]⟩:=by simpa [YK] using hl
  rw[this];exact⟨Hg,Ab,p2,BD,by have:=p3.1;simp only;omega,Tx.nil,fun e=>by cases e⟩
 | Zq a vs cur=>
  obtain⟨p1,p2⟩:=P;refine⟨{ h with Zq:=p1,Zh:=fun r hr=>?_ },(fun x hx=>by cases hx),rfl,rfl,by simp[YK],rfl⟩;have hr:(if cur=true then n.Zh.map (fun r=>{ r with ZI:=ins r.ZI n.me vs }) else n.Zh)=X r:=hr;split at hr
  .rw[bd]at hr;obtain⟨r0,h0,rfl⟩:=hr;have R:=h.Zh r0 h0;refine⟨R.b,R.ZI.ins Ab vs,fun x hx=>?_,R.Rg⟩;rcases Fx hx with q|q
   .rw[q];exact p2
   .exact R.vs x q
  .exact h.Zh r hr
theorem Zhp{C:List Cm}(hi:i<5)(hC:(H C)<=100000)(h:Ub C i n)(hk:∀l∈n.Zg,Ua C l):
  Ub C i (step n).n/\(∀l∈(step n).ls,Ua C l)/\(∀l∈(step n).n.Zg,Ua C l)/\(step n).ls.length+(step n).n.Zg.length<=n.Zg.length+100201/\(step n).ts.length+(step n).n.Zj.length<=n.Zj.length:=by
 unfold step;split
 .cases hp:n.Zs with
  | some p=>
   obtain⟨f1,f2,f3,f4,f5,f6⟩:=Fz hi (Fy h) (h.Zs p hp);refine⟨f1,f2,by simp only;rw[f3];exact hk,?_,?_⟩
   .simp only;rw[f3];show _+n.Zg.length<=_;omega
   .simp only;rw[f4,f6];show 0+n.Zj.length<=_;omega
  | none=>
   obtain⟨d1,d2,d3,d4,d5⟩:=mD hi n.Zg n h hk;simp only;split
   .exact⟨d1,d2,d3,nc,d5⟩
   .obtain⟨e1,e2,e3,e4,e5,e6⟩:=jo hi hC d1;refine⟨e1,fun l hl=>?_,by simp only;rw[e3];exact d3,?_,?_⟩
    .rcases a6.1 hl with hl|hl
     .exact d2 l hl
     .exact e2 l hl
    .simp only[aa];rw[e3];omega
    .simp only;rw[e4,e6,List.append_nil];exact d5
 .exact⟨h,(fun x hx=>by cases hx),hk,Hg,Hg⟩
theorem Zhq{a':UC}{b:List Nat}(h:JA a b=X a')(ha:EL a):EL a':=by
 unfold JA at h;split at h
 .split at h
  .rename_i q
   cases h
   exact⟨.inl (OU q),ha.Y5⟩
  .cases h
 .split at h
  .split at h
   .cases h
   .split at h
    .rename_i q
     cases h
     have hv:=KA q;exact⟨.inl hv.2.1,ha.Y5.ins hv⟩
    .cases h
  .cases h
theorem ZdA(l:List Nat):∀(f:Nat) (a:UC) (k:Nat),EL a->EL (Ff l f a k).1:=by
 intro f
 induction f with
 | zero=>intro a k h;exact h
 | succ f ih=>
  intro a k h;unfold Ff
  cases hs:Y3 l a k with
  | none=>exact h
  | some x=>
   refine ih _ _ ?_;unfold Y3 at hs;split at hs
   .rw[bd]at hs;obtain⟨y,hy,rfl⟩:=hs;exact Zhq hy h
   .cases hs
theorem zM(l:List Nat):EL (Tu l).1:=ZdA l _ _ _ EL.zero
theorem HK{C:List Cm}{up:Bool}{data:List Nat}{YZ:Int}{Zq:UC}(hd:(H data)<=100000)(ho:EL Zq):Ub C i (Yr i up data YZ Zq):=
 ⟨rfl,by unfold Yr;simp,ho,BD,(fun p hp=>by cases hp),(fun r hr=>by cases hr),Sz.nil 40,(fun j hj=>by cases hj),⟨by simp[Yr],(fun x hx=>by cases hx)⟩,hd⟩
theorem ry{C:List Cm}(h:Ub C i n)(Zf:Int):Ub C i (XF i n Zf)/\((XF i n Zf).Zg=[]/\(XF i n Zf).Zj=[]\/XF i n Zf=n):=by
 unfold XF;split
 .split
  .refine⟨HK ?_ EL.zero,.inl ⟨rfl,rfl⟩⟩;have:=h.data;rw[a8];omega
  .exact⟨HK Hg EL.zero,.inl ⟨rfl,rfl⟩⟩
 .exact⟨h,.inr rfl⟩
theorem DR{C:List Cm}(h:Ub C i n):Ub C i (started i n)/\((started i n).Zg=[]/\(started i n).Zj=[]\/started i n=n):=by
 unfold started;split
 .exact⟨h,.inr rfl⟩
 .refine⟨HK ?_ ?_,.inl ⟨rfl,rfl⟩⟩
  .unfold Fg;have:=h.data;split
   .rw[a8];omega
   .simp
  .split
   .exact zM _
   .exact EL.zero
theorem zN{C:List Cm}(h:Ub C i n):Ub C i (lead n)/\(lead n).Zg=n.Zg/\(lead n).Zj=n.Zj:=by
 unfold lead;split
 .exact⟨h,rfl,rfl⟩
 .rename_i q;refine⟨{ h with Zs:=?_,Zh:=fun r hr=>?_ },rfl,rfl⟩
  .intro p hp;have hp:X3 n.Zs=X p:=hp
   cases hn:n.Zs with
   | none=>rw[hn]at hp;cases hp
   | some p0=>
    have P:=h.Zs p0 hn;rw[hn]at hp
    cases p0 with
    | VB a to b vs=>cases hp;exact P
    | TC a to v=>cases hp;exact P
    | Zq a vs cur=>cases hp;exact P
  .obtain rfl:=Option.some.inj hr;refine⟨⟨?_,?_⟩,Sz.nil 5,(fun x hx=>by cases hx),(fun x hx=>by cases hx)⟩
   .have h1:=h.Zq.rh.1;show 0<=(Jp n).r;unfold Jp;simp only;split<;>omega
   .have:¬65536<(Jp n).r:=fun e=>q (.inr e);show (Jp n).r<=65536;omega
def Vy(f:Nat->Nat):Nat:=f 0+f 1+f 2+f 3+f 4
theorem zO(f:Nat->Nat)(i a:Nat)(hi:i<5):Vy (fun j=>if j=i then a else f j)+f i=Vy f+a:=by
 unfold Vy
 match i,hi with
 | 0,_=>simp;omega
 | 1,_=>simp;omega
 | 2,_=>simp;omega
 | 3,_=>simp;omega
 | 4,_=>simp;omega
theorem mF(f:Nat->Nat)(i:Nat)(hi:i<5):f i<=Vy f:=by
 unfold Vy
 match i,hi with
 | 0,_=>omega
 | 1,_=>omega
 | 2,_=>omega
 | 3,_=>omega
 | 4,_=>omega
structure WI(C:List Cm)(k:Nat)(w:Wd):Prop where
 nd:∀i,i<5->Ub C i (w.Zb i)
 Wp:∀i,i<5->∀l∈(w.Zb i).Zg,Ua C l
 Nw:∀l∈w.Zp,Ua C l
 room:w.Zp.length+Vy (fun i=>(w.Zb i).Zg.length)<=k*100300
 wait:w.ZE.length+Vy (fun i=>(w.Zb i).Zj.length)<=k
 Yv:∀i,0<=w.Yv i/\w.Yv i<=k
theorem Rk(w:Wd)(i:Nat)(n:Nd)(g:Nd->Nat)(hi:i<5):Vy (fun j=>g (if j=i then n else w.Zb j))+g (w.Zb i)=Vy (fun j=>g (w.Zb j))+g n:=by
 have:=zO (fun j=>g (w.Zb j)) i (g n) hi;have e:(fun j=>g (if j=i then n else w.Zb j))=(fun j=>if j=i then g n else g (w.Zb j)):=by
  funext j;split<;>rfl
 rw[e];exact this
theorem WI.out{C:List Cm}{w:Wd}(h:WI C k w)(hi:i<5){o:Out}(h1:Ub C i o.n)(h2:∀l∈o.ls,Ua C l)(h3:∀l∈o.n.Zg,Ua C l)(h4:(H o.ls)+o.n.Zg.length<=(w.Zb i).Zg.length+100300)(h5:(H o.ts)+o.n.Zj.length<=(w.Zb i).Zj.length+1):WI C (k+1) (w.out i o):=by
 unfold Wd.out;refine⟨fun j hj=>?_,fun j hj l hl=>?_,fun l hl=>?_,?_,?_,fun j=>by have:=h.Yv j;simp only;omega⟩
 .by_cases e:j=i
  .subst e;simpa using h1
  .simp only[if_neg e];exact h.nd j hj
 .by_cases e:j=i
  .subst e;simp only[if_true]at hl;exact h3 l hl
  .simp only[if_neg e]at hl;exact h.Wp j hj l hl
 .rcases a6.1 hl with hl|hl
  .exact h.Nw l hl
  .exact h2 l hl
 .have:=Rk w i o.n (fun n=>n.Zg.length) hi;have hr:=h.room;simp only[aa]at this ⊢;omega
 .have:=Rk w i o.n (fun n=>n.Zj.length) hi;have hr:=h.wait;simp only[aa]at this ⊢;omega
theorem Sh(w:Wd)(i:Nat)(n:Nd):w.set i n=w.out i ⟨n,[],[]⟩:=by
 unfold Wd.set Wd.out;simp
theorem WI.more{C:List Cm}{w:Wd}(h:WI C k w):WI C (k+1) w:=
 ⟨h.nd,h.Wp,h.Nw,bo h.room (br _ (bG k)),bo h.wait (bG k),fun i=>⟨(h.Yv i).1,by have:=(h.Yv i).2;omega⟩⟩
theorem WI.ok{C:List Cm}{w:Wd}(h:WI C k w)(hC:(H C)<=100000)(hk:k<=100000):WOk w:=by
 have hr:=h.room;have hw:=h.wait;have NH:∀i,i<5->(w.Zb i).Zg.length+w.Zp.length<=10030000000:=fun i hi=>by
  have:(w.Zb i).Zg.length<=_:=mF (fun i=>(w.Zb i).Zg.length) i hi;omega
 have HQ:∀i,i<5->(w.Zb i).Zj.length+w.ZE.length<=100000:=fun i hi=>by
  have:(w.Zb i).Zj.length<=_:=mF (fun i=>(w.Zb i).Zj.length) i hi;omega
 refine⟨fun i hi=>(h.nd i hi).me,fun i hi=>zL hi hC (h.nd i hi) (h.Wp i hi) (by have:=HQ i hi;omega) (by have:=NH i hi;omega) (by have:=HQ i hi;omega),fun i hi=>?_,fun i hi=>?_,fun i hi=>?_,fun i hi=>?_,fun i hi=>?_,?_,fun i hi=>?_,fun i hi=>?_,fun i hi r hr=>?_,fun l hl=>(h.Nw l hl).to,?_⟩
 .have:=OW (h.nd i hi).Zx.1 (h.nd i hi).Zx.2;omega
 .have:=(h.nd i hi).Kz;omega
 .have:=HQ i hi;omega
 .have:=NH i hi;omega
 .have:=(h.nd i hi).data;omega
 .have:=HQ 0 nc;omega
 .have:=h.Yv i;omega
 .have h1:=(h.nd i hi).Zq.rh;have h2:=(h.nd i hi).YX;unfold Lz at h1 h2;omega
 .have h1:=((h.nd i hi).Zh r hr).b;unfold Lz at h1;omega
 .have:=NH 0 nc;omega
set_option maxRecDepth 100000
set_option maxHeartbeats 8000000 in
theorem Zhr(T:bK)(h:Hp)(o:Ow)(wb:Nat)(YL:Nat->Nat)(Xq:WA)(w:Wd)(a:Ac)(dv:am)(d:Vp o h)(A:QD o h wb YL Xq w)(ok:WOk w)(hk:1<=a.Z7/\a.Z7<=9)(hi:a.ZV<5)(iv:Pv o h dv a.data)(hrl:(H a.data)<=140737488355328)(tb:eG o h):
  Zd ba T 37 #[Zz wb,a2 (Fv a.Z7 a.ZV a.at' a.Zf dv).toArray] h fun v' h'=>∃o' Jv Zvf,Kp Sy o h o' h'/\QD o' h' wb Zvf Jv (act w a):=by
 obtain⟨pd,cd,hdv,W0⟩:=iv.1.fits;have bC:Ph dv:=by rw[hdv];exact W0
 subst hdv;refine Zd.XS [_,_] Tryz.func37 ?_;unfold Zz Fv;obtain⟨h1,Xk⟩:=ZQ (h.push (al (Fv a.Z7 a.ZV a.at' a.Zf (U pd (H a.data) cd)).toArray 36):Hp);have k1:Kp Wy o h o h1:=by rw[Xk];exact Yt d _
 have x3:Yb o h1 h.size (al (Fv a.Z7 a.ZV a.at' a.Zf (U pd (H a.data) cd)).toArray 36):=⟨d _ (aU _),by rw[Xk];exact Zc⟩
 have e0:=Xk.symm;unfold Fv at e0;have A1:=A.Zo k1;have tb1:=tb.Zf k1;have R1:=XP A1.wd.ZX.2;have Rn:=R1.Zb;obtain⟨b,off,c,hn,hc5,hb,Ky⟩:=Tw A1.wd;rw[hn]at Rn;have Bw:=Za A1.wd.ZX.2;have q0:hc h1 ⟨h.size,0,Y⟩=X (W O a.Z7):=Zn x3.2;have q1:hc h1 ⟨h.size,1,Y⟩=X (W O a.ZV):=Zn x3.2;have q2:hc h1 ⟨h.size,2,Y⟩=X (W O a.at'):=Zn x3.2;have q3:hc h1 ⟨h.size,3,Y⟩=X (W O a.Zf):=Zn x3.2;have q4:hc h1 ⟨h.size,4,Y⟩=X (U pd (H a.data) cd):=Zn x3.2;have l3:=Za x3.2;have ri:=Ky a.ZV hi;unfold Zz at ri;have Kj:(a.ZV:Int)<5:=nc;obtain⟨na,N1⟩:=A1.nd a.ZV hi;have TF:=Za N1.ZX.2;have iv1:=iv.Zf k1;have zo:a.Z7=1\/a.Z7=2\/a.Z7=3\/(a.Z7=4\/a.Z7=5\/a.Z7=6)\/a.Z7=7\/a.Z7=8\/a.Z7=9:=nc;rcases zo with e|e|e|e|e|e|e
 ·-- a command
  have ea:act w a=JN w a.ZV a.data:=by unfold act;rw[if_pos e]
  rw[ea];rw[e]at q0;have cs:=qY T h1 o wb YL Xq w a.ZV a.data (U pd (H a.data) cd) k1.Yn A1 hi (ok.me _ hi) iv1 bC hrl tb1 (by have:=ok.Zx _ hi;omega) (by have:=ok.ZB _ hi;omega) (by have:=ok.Zj _ hi;omega) (by have:=ok.ZE;omega) (ok.Yv _ hi);unfold Zz at cs;simp -implicitDefEqProofs only[go_sem,e0,q0];refine VS.z (h1.size) [11] (.p 0 (.p 1 (.p 2 (.p 3 (.q 4 (.p 5 (.q 6 (.p 7 (.q 8 (.p 9 (.q 10 (.w 11 .nil)))))))))))) mixed uf ?_;simp -implicitDefEqProofs only[go_sem,Rn,q1,q4,Bw,l3,hb,Kj,ri];refine cs.use ?_;rintro v' g ⟨o',Jv,kk,A'⟩;simp -implicitDefEqProofs only[go_sem];exact⟨o',Jv,YL,(YQ k1).trans kk,A'⟩
 ·-- to lead
  have ea:act w a=w.set a.ZV (lead (w.Zb a.ZV)):=by unfold act;rw[if_neg nc,if_pos e]
  rw[ea];rw[e]at q0;have cs:=Zds T h1 o wb a.ZV (YL a.ZV) na (w.Zb a.ZV) k1.Yn N1 (ok.Zvc _ hi) (ok.SG _ hi);unfold Zz at cs;simp -implicitDefEqProofs only[go_sem,e0,q0];refine VS.z (h1.size) [9] (.p 0 (.p 1 (.p 2 (.p 3 (.q 4 (.p 5 (.q 6 (.p 7 (.q 8 (.w 9 .nil)))))))))) mixed uf ?_;simp -implicitDefEqProofs only[go_sem,Rn,q1,Bw,l3,hb,Kj,ri];refine cs.use ?_;rintro v' g ⟨o',a',kk,N'⟩;simp -implicitDefEqProofs only[go_sem];exact⟨o',Xq,YL,(YQ k1).trans (YQ kk),A1.Ys (kk.mono fun t q=>.inr (.inr (.inr q))) N' (A1.wd.Zf kk fun t q e=>by rw[q]at e;cases e)⟩
 ·-- a step
  have ea:act w a=w.out a.ZV (step (w.Zb a.ZV)):=by unfold act;rw[if_neg nc,if_neg nc,if_pos e]
  rw[ea];rw[e]at q0;have cs:=zE T h1 o wb a.ZV (YL a.ZV) YL na (w.Zb a.ZV) Xq w.Zp w.Yv w.ZE k1.Yn N1 A1.wd tb1 (ok.step _ hi);unfold Zz at cs;simp -implicitDefEqProofs only[go_sem,e0,q0];refine VS.z (h1.size) [9] (.p 0 (.p 1 (.p 2 (.p 3 (.q 4 (.p 5 (.q 6 (.p 7 (.q 8 (.w 9 .nil)))))))))) mixed uf ?_;simp -implicitDefEqProofs only[go_sem,Rn,q1,Bw,l3,hb,Kj,ri];refine cs.use ?_;rintro v' g ⟨o',a',Jv,kk,N',W'⟩;simp -implicitDefEqProofs only[go_sem];exact⟨o',Jv,YL,(YQ k1).trans (YQ kk),A1.Ys kk N' W'⟩
 ·-- a letter
  have ea:act w a=pick w a.at' (decide (a.Z7≠5)) (decide (a.Z7=6)):=by unfold act;rw[if_neg nc,if_neg nc,if_neg nc,if_pos e]
  rw[ea];have cs:=zF T h1 o wb YL Xq w a.at' (decide (a.Z7≠5)) (decide (a.Z7=6)) k1.Yn A1 ok.to (by have:=ok.room;omega) (fun j hj=>by have:=ok.Zg j hj;omega);unfold Zz at cs;rcases e with e|e|e
  all_goals
   rw[e]at q0 cs ⊢;rw[e]at e0;simp -implicitDefEqProofs only[go_sem,e0,q0,q2];refine cs.use ?_;rintro v' g ⟨o',Jv,kk,A'⟩;simp -implicitDefEqProofs only[go_sem];exact⟨o',Jv,YL,(YQ k1).trans kk,A'⟩
 ·-- all ZpD
  have ea:act w a=w.Zp.foldl Q3 { w with Zp:=[] }:=by unfold act;rw[if_neg nc,if_neg nc,if_neg nc,if_neg nc,if_pos e]
  rw[ea];rw[e]at q0;have Y7:=ok.room;obtain⟨pf,cf,hf,hfc⟩:=Rj A1.wd.Zp;have Rf:=R1.Zp;rw[hf]at Rf;obtain⟨g2,w2,W2,k2⟩:=A1.wd.DP (fl':=[]) (v:=U Y 0 0) (Kp.refl k1.Yn (fun t=>t=.Zp)) ⟨[],rfl,Xz.nil _ _ _ _ _,fun x hx=>by cases hx⟩ (R1.Bv (U Y 0 0) rfl);have A2:QD o g2 wb YL { Xq with Zp:=U Y 0 0 } { w with Zp:=[] }:=A1.Zdn k2 (by rintro t rfl;rfl) W2;have L2:Wv o .Zp g2 (U pf w.Zp.length cf) w.Zp:=by rw[<-hf];exact A1.wd.Zp.Zf k2 Ih
  have K2:Kp Sy o h o g2:=(YQ k1).trans (YQ k2);simp -implicitDefEqProofs only[go_sem,e0,q0,Rf,Bw,w2];refine VS.Yj (fun F g=>F 0=a1 (X ⟨wb,0,Y⟩)/\F 118=U pf w.Zp.length cf/\F 119=W O w.Zp.length/\∃(j:Nat) (o':Ow),j<=w.Zp.length/\F 120=W O j/\Kp Sy o h o' g/\QD o' g wb YL { Xq with Zp:=U Y 0 0 } ((w.Zp.take j).foldl Q3 { w with Zp:=[] })/\Wv o' .Zp g (U pf w.Zp.length cf) w.Zp)
   (fun F _=>w.Zp.length-(vi (F 120)).toNat) rfl ⟨rfl,rfl,rfl,0,o,bR _,rfl,K2,A2,L2⟩ ?_
  rintro F3 g3 ⟨f0,f118,f119,j,o3,hj,f120,K3,A3,L3⟩;by_cases ZU:j<w.Zp.length
  .have Z8:(j:Int)<w.Zp.length:=nc;obtain⟨v,b3,ZHU,c3,hv,hvc,hb3,Zhs,iv3⟩:=mA L3 j ZU;simp only[Value.slice.injEq]at hv;obtain⟨rfl,_,rfl⟩:=hv;obtain⟨l,hl⟩:=ZQ (w.Zp[j]);rw[<-hl]at Zhs iv3;have lV:l∈w.Zp:=by rw[hl];exact ca ZU
   obtain⟨pw,cw,rfl⟩:=iv3.ZP;obtain⟨g4,He⟩:=ZQ (g3.push (al (XN l (U pw (H l.vs) cw)).toArray 135):Hp);have k4:Kp Wy o3 g3 o3 g4:=by rw[He];exact Yt K3.Yn _
   have x6:Yb o3 g4 g3.size (al (XN l (U pw (H l.vs) cw)).toArray 135):=⟨K3.Yn _ (aU _),by rw[He];exact Zc⟩
   have e4:=He.symm;have r6:rd g4 ⟨g3.size,0,Y⟩ 14=X (XN l (U pw (H l.vs) cw)):=Zy x6.2 rfl;obtain⟨wj,hwj⟩:=ZQ ((w.Zp.take j).foldl Q3 { w with Zp:=[] });rw[<-hwj]at A3;have XC:(w.Zp.take (j+1)).foldl Q3 { w with Zp:=[] } = Q3 wj l:=by
    rw[Y2 _ j ZU,<-hl,cu,<-hwj];rfl
   have cc:=BA T g4 o3 wb YL _ wj l (U pw (H l.vs) cw) k4.Yn (A3.Zo k4) (iv3.Zf k4) (ok.to l lV) (fun i hi=>by
    have h1:=cG i (w.Zp.take j) { w with Zp:=[] };rw[<-hwj,a8]at h1;have h2:=ok.Zg i hi;have h3:=ok.room;have h4:(({ w with Zp:=[] }:Wd).Zb i).Zg.length=(w.Zb i).Zg.length:=rfl;omega)
   unfold Zz XN at cc;unfold XN at e4 r6 Zhs;simp -implicitDefEqProofs only[go_sem,f0,f118,f119,f120,Z8,Zhs,e4,r6];refine cc.use ?_;rintro v' g5 ⟨o5,k5,A5⟩;simp -implicitDefEqProofs only[go_sem,f120];unfold XK;refine⟨⟨f0,f118,f119,j+1,o5,ZU,rfl,(K3.trans (YQ k4)).trans (YQ k5),by rw[XC];exact A5,(L3.Zf k4 (fun q=>q.elim)).Zf k5 (by rintro⟨_,e⟩;cases e)⟩,?_⟩;simp only[vi,Zr,↓reduceIte,f120];omega
  .have Xp:¬(j:Int)<w.Zp.length:=nc;obtain rfl:j=w.Zp.length:=nc;rw[aI (aU _)]at A3;simp -implicitDefEqProofs only[go_sem,f119,f120,Xp];exact⟨o3,_,YL,K3,A3⟩
 ·-- a ZAq
  have ea:act w a=w.set a.ZV (XF a.ZV (w.Zb a.ZV) a.Zf):=by unfold act;rw[if_neg nc,if_neg nc,if_neg nc,if_neg nc,if_neg nc,if_pos e]
  rw[ea];rw[e]at q0;obtain⟨n,CA⟩:=ZQ (w.Zb a.ZV);have Zht:=ok.data _ hi;rw[<-CA]at N1 Zht;have P1:=ZR N1.ZX.2 N1.pt.store.len;have P1u:=P1.up;simp -implicitDefEqProofs only[go_sem,e0,q0];refine VS.mono (N:=fun F' g'=>Zk h1.size h1 g'/\F' 0=a1 (X ⟨wb,0,Y⟩)/\F' 3=a1 (X ⟨h.size,0,Y⟩)/\F' 7=a1 (X ⟨YL a.ZV,0,Y⟩)) ?_ ?_ (fun _ _ _ h=>h) (fun _ _ h=>h)
  .refine VS.z (h1.size) [] (.p 0 (.p 1 (.p 2 (.q 3 (.p 4 (.q 5 (.p 6 (.q 7 (.p 8 .nil))))))))) mixed uf ?_;simp -implicitDefEqProofs only[go_sem,Rn,q1,Bw,l3,hb,Kj,ri]
   try exact Zk.refl _ _
  rintro F2 g2 ⟨b2,f0,f3,f7⟩;have Nc:=ZY k1.Yn b2;have A2:=A1.Zo Nc;have N2:=N1.Zo Nc;have K2:=k1.trans Nc;have y3:=x3.Zf Nc;have P2:=ZR N2.ZX.2 N2.pt.store.len;have mz:=P2.up;have Ui:=Za N2.ZX.2;clear P1 P1u
  cases hu:n.up with
  | false=>
   rw[hu]at mz;have e1:XF a.ZV (w.Zb a.ZV) a.Zf=w.Zb a.ZV:=by unfold XF;rw[<-CA,if_neg (by rw[hu];simp)]
   rw[e1,cE];simp -implicitDefEqProofs only[go_sem,f7,mz];exact⟨o,Xq,YL,YQ K2,A2⟩
  | true=>
   rw[hu]at mz;obtain⟨pt,ct,uc⟩:=N2.pt.data.1.ZP;have uc:na.data=U pt (H n.data) ct:=uc;have P2t:=P2.tape;rw[uc]at P2t;have ND:=N2.pt.data;rw[uc]at ND;obtain⟨L,Z,E,hLZ⟩:∃L Z E,PZ n.data n.YZ a.Zf=(L,Z,E):=⟨_,_,_,rfl⟩
   have q3:hc g2 ⟨h.size,3,Y⟩=X (W O a.Zf):=Zn y3.2;have l3:=Za y3.2;have call:∀G,Zk g2.size g2 G->Zd ba T 55 #[a2 #[U pt (H n.data) ct,W O n.YZ],W O a.Zf] G fun v' h'=>Zk G.size G h'/\lq G.size h' v' (L,Z,E):=fun G hG=>by
    rw[<-hLZ];exact xh T G _ n.YZ a.Zf n.data (ND.bs.Yy hG) nc
   have wT:∀(G:Hp) (k:Nat) (m:Int) (p:Option Addr) (L c:Nat),G[k]? = X (al [U Y 0 0,W O 0].toArray 100)->wr G ⟨k,0,Y⟩ [U p L c,W O m]=X (G.setIfInBounds k (al [U p L c,W O m].toArray 100)):=fun G k m p L c hx=>by
    rw[Ye hx 0 _];rfl
   rw[jj a.ZV (w.Zb a.ZV) a.Zf L Z E (by rw[<-CA];exact hu) (by rw[<-CA];exact hLZ)];simp -implicitDefEqProofs only[go_sem,f7,mz];refine VS.mono (N:=fun F' g'=>F' 0=a1 (X ⟨wb,0,Y⟩)/\F' 3=a1 (X ⟨h.size,0,Y⟩)/\Zk g2.size g2 g'/\∃kt p c,F' 8=a1 (X ⟨kt,0,Y⟩)/\g'[kt]? = X (al [U p (H L) c,W O Z].toArray 100)/\Pv o g' (U p (H L) c) L) ?_ ?_ (fun _ _ _ h=>h) (fun _ _ h=>h)
   .refine VS.z (g2.size) [6,11] (.p 0 (.p 1 (.p 2 (.q 3 (.p 4 (.q 5 (.or 6 (.p 7 (.p 8 (.p 9 (.s 10 (.w 11 (.p 12 .nil)))))) (.s 10 (.w 6 (.p 7 (.p 8 (.p 9 (.w 11 (.p 12 .nil)))))))))))))) mixed uf ?_;simp -implicitDefEqProofs only[go_sem,f0,f3,f7,P2t,q3,Ui,l3]
    repeat' (first|with_reducible exact Zk.refl _ _|with_reducible exact Zk.push nc _|with_reducible refine And.intro ?_ ?_)
    all_goals first
     | (refine (call g2 (Zk.refl _ _)).use ?_
        rintro _ g5 ⟨b5,p5,c5,L',Z',E',hz,rfl,bs,hcc,hbl⟩
        cases hz
        have s5:=b5.size;have kk:=ZY K2.Yn b5;have im:Pv o g5 (U p5 (H L) c5) L:=Fw kk.Yn bs hcc fun b hb=>⟨K2.Yn b (hbl b hb).1,(hbl b hb).2⟩
        simp -implicitDefEqProofs only[go_sem,b5];exact⟨f0,f3,_,_,_,rfl,Zc,im.Zf (Yt kk.Yn _)⟩)
     | (refine (call (g2.push (al _ 100)) (Zk.push (aU _) _)).use ?_
        rintro _ g5 ⟨b5,p5,c5,L',Z',E',hz,rfl,bs,hcc,hbl⟩
        cases hz
        have B5:Zk g2.size g2 g5:=(Zk.push (aU _) _).trans (b5.mono Hg);have xA:=b5.get (k:=g2.size) Hg Zc;have Pc:=wT _ _ Z p5 (H L) c5 xA;have zA:=Za xA;have kk:=ZY K2.Yn B5;have im:Pv o g5 (U p5 (H L) c5) L:=Fw kk.Yn bs hcc fun b hb=>⟨K2.Yn b (by have:=(hbl b hb).1;rw[cz]at this;omega),(hbl b hb).2⟩
        have ks:=cF kk.Yn im zA (fun b hb=>by have:=(hbl b hb).1;rw[cz]at this;omega) (al [U p5 (H L) c5,W O Z].toArray 100);simp -implicitDefEqProofs only[go_sem,B5,Pc,zA];exact⟨f0,f3,_,_,_,rfl,ZS xA,ks⟩)
   clear f0 f3 f7;rintro F3 g3 ⟨f0,f3,b3,kt,p3,c3,f8,yt,im3⟩;have TE:=ZY K2.Yn b3;have K3:=K2.trans TE;have A3:=A2.Zo TE;have z3:=y3.Zf TE;obtain⟨b,off,c,hn,hc5,hb,Ky⟩:=Tw A3.wd;have R3:=XP A3.wd.ZX.2;have Rn:=R3.Zb;rw[hn]at Rn;have Bw:=Za A3.wd.ZX.2;have q1:hc g3 ⟨h.size,1,Y⟩=X (W O a.ZV):=Zn z3.2;have l3:=Za z3.2;have rt:rd g3 ⟨kt,0,Y⟩ 2=X [U p3 (H L) c3,W O Z]:=Zy yt rfl;have lt:=Za yt;have cb:Zd ba T 49 #[W O a.ZV,a2 #[U p3 (H L) c3,W O Z],a2 #[W O 0,W O 0,U Y 0 0]] g3 _:=Ft T g3 o wb a.ZV (U p3 (H L) c3) L Z (U Y 0 0) JE K3.Yn im3 (Im.nil _ _ _ _);refine VS.z (g3.size) [12] (.p 0 (.p 1 (.p 2 (.q 3 (.p 4 (.q 5 (.p 6 (.q 7 (.q 8 (.p 9 (.s 10 (.p 11 (.w 12 .nil))))))))))))) mixed uf ?_;simp -implicitDefEqProofs only[go_sem,f0,f3,f8,Rn,q1,rt,Bw,l3,lt,hb,Kj];refine cb.use ?_;rintro _ g4 ⟨nb,o4,a4,rfl,b4,k4,N4⟩;have W4:=A3.wd.Zf k4 (by rintro t (rfl|rfl)<;>simp[Tg.of]);obtain⟨b',Zvi,c',g5,Nl,w5,k5,W5⟩:=DQ k4.Yn W4 a.ZV nb hi;rw[hn]at Nl;simp only[Value.slice.injEq,Option.some.injEq,Addr.mk.injEq,true_and,and_true]at Nl;obtain⟨⟨rfl,rfl⟩,rfl⟩:=Nl;have hb4:b<g4.size:=bh hb b4.size;have N5:=N4.Zf k5 (by rintro t rfl e;cases e);have K5:Kp Sy o h o4 g5:=((YQ K3).trans (YQ k4)).trans (YQ k5);have z5:=(z3.Zf k4).Zf k5;unfold Zz at w5 ⊢;simp -implicitDefEqProofs only[go_sem,b4,w5,hb4,Kj];have R5:=XP W5.ZX.2;have R5n:=R5.Zb;rw[hn]at R5n;obtain⟨b'',ZAt,c'',Zhu,_,hb5,Zvj⟩:=Tw W5;rw[hn]at Zhu;simp only[Value.slice.injEq,Option.some.injEq,Addr.mk.injEq,true_and,and_true]at Zhu;obtain⟨⟨rfl,rfl⟩,rfl⟩:=Zhu;have ri5:=Zvj a.ZV hi;simp only[↓reduceIte]at ri5;unfold Zz at ri5;have jg:=Za W5.ZX.2;have q15:hc g5 ⟨h.size,1,Y⟩=X (W O a.ZV):=Zn z5.2;have l35:=Za z5.2;have Mf:=Za N5.ZX.2;obtain⟨g6,w6,N6,k6⟩:=Yi.write (n:={ Yr a.ZV true L Z JE with up:=false }) (a:=a4) { N5.pt with } K5.Yn N5.ZX ((XH N5.ZX.2 N5.pt.store.len).up false);refine VS.z (g5.size) [10] (.p 0 (.p 1 (.p 2 (.q 3 (.p 4 (.q 5 (.p 6 (.q 7 (.p 8 (.p 9 (.w 10 .nil))))))))))) mixed uf ?_;simp -implicitDefEqProofs only[go_sem,f0,f3,R5n,q15,jg,l35,hb5,Kj,ri5,Mf,w6];have kk:Kp (fun t=>t=.Zb\/t.of=X a.ZV) o g3 o4 g6:=((k4.mono fun t q=>by rcases q with rfl|rfl<;>exact .inr rfl).trans (k5.mono fun t q=>.inl q)).trans (k6.mono fun t q=>.inr (by rw[q];rfl));exact⟨o4,Xq,_,K5.trans (YQ k6),A3.fresh kk N6 (W5.Zf k6 (by rintro t rfl;simp[Tg.of]))⟩
 ·-- a start
  have ea:act w a=w.set a.ZV (started a.ZV (w.Zb a.ZV)):=by unfold act;rw[if_neg nc,if_neg nc,if_neg nc,if_neg nc,if_neg nc,if_neg nc]
  rw[ea];rw[e]at q0;obtain⟨n,CA⟩:=ZQ (w.Zb a.ZV);have Zht:=ok.data _ hi;rw[<-CA]at N1 Zht;simp -implicitDefEqProofs only[go_sem,e0,q0];refine VS.mono (N:=fun F' g'=>Zk h1.size h1 g'/\F' 0=a1 (X ⟨wb,0,Y⟩)/\F' 3=a1 (X ⟨h.size,0,Y⟩)/\F' 10=a1 (X ⟨YL a.ZV,0,Y⟩)) ?_ ?_ (fun _ _ _ h=>h) (fun _ _ h=>h)
  .refine VS.z (h1.size) [] (.p 0 (.p 1 (.p 2 (.q 3 (.p 4 (.q 5 (.p 6 (.q 7 (.p 8 .nil))))))))) mixed uf ?_;simp -implicitDefEqProofs only[go_sem,Rn,q1,Bw,l3,hb,Kj,ri]
   try exact Zk.refl _ _
  rintro F2 g2 ⟨b2,f0,f3,f10⟩;have Nc:=ZY k1.Yn b2;have A2:=A1.Zo Nc;have N2:=N1.Zo Nc;have K2:=k1.trans Nc;have gz:=tb1.Zf Nc;have y3:=x3.Zf Nc;have P2:=ZR N2.ZX.2 N2.pt.store.len;have mz:=P2.up;have Ui:=Za N2.ZX.2
  cases hu:n.up with
  | true=>
   rw[hu]at mz;have e1:started a.ZV (w.Zb a.ZV)=w.Zb a.ZV:=by unfold started;rw[<-CA,if_pos hu]
   rw[e1,cE];simp -implicitDefEqProofs only[go_sem,f10,mz];exact⟨o,Xq,YL,YQ K2,A2⟩
  | false=>
   rw[hu]at mz;obtain⟨pt,ct,uc,hct⟩:=N2.pt.data.1.fits;have uc:na.data=U pt (H n.data) ct:=uc;have P2t:=P2.tape;rw[uc]at P2t;have ND:=N2.pt.data;rw[uc]at ND;obtain⟨D,hD⟩:=ZQ (Fg n.data n.YZ);obtain⟨Z,hZ⟩:=ZQ (iU n.data n.YZ);obtain⟨TN,Zmn⟩:=ZQ (if YW D Z then (Tu D).1 else JE);have es:started a.ZV (w.Zb a.ZV)=Yr a.ZV true D Z TN:=by unfold started;rw[<-CA,if_neg (by rw[hu];simp),Zmn,hD,hZ]
   rw[es];have hDl:(H D)<=1000000:=by
    rw[hD];unfold Fg;split
    .rw[a8];omega
    .simp
   simp -implicitDefEqProofs only[go_sem,f10,mz,P2t];refine (qs T g2 _ n.YZ n.data ND.bs hct nc gz.tk).use ?_;rintro v3 g3 ⟨R3,b3⟩;obtain⟨p3,c3,E3,rfl,o3⟩:∃p c E,v3=.tuple [a2 [U p (H D) c,W O Z].toArray,W O E].toArray/\Yx g2.size 5 g3 (U p (H D) c) D:=by
    obtain⟨r,k,E,w',rfl,ob,hk,hr⟩:=R3;have h1:(if E=0 then n.data.take k else [])=D:=by
     rw[hD];unfold Fg;split at hr
     .rename_i q;rw[if_pos hr.1,if_pos q,OT hr.2]
     .rename_i q;rw[if_neg (show ¬E=0 by omega),if_neg q]
    have h2:(if E=0 then (if (k:Int)<n.YZ then (k:Int) else n.YZ) else 0)=Z:=by
     rw[hZ];unfold iU;split at hr
     .rename_i q;rw[if_pos hr.1,if_pos q,OT hr.2]
     .rename_i q;rw[if_neg (show ¬E=0 by omega),if_neg q]
    rw[h1]at ob;rw[h2];obtain⟨p,c,rfl,_⟩:=ob.open;exact⟨p,c,E,rfl,ob⟩
   have TE:=ZY K2.Yn b3;obtain⟨g4,He⟩:=ZQ (g3.push (al [U p3 (H D) c3,W O Z].toArray 100):Hp);have k4:Kp Wy o g2 o g4:=by rw[He];exact TE.push _
   have x11:Yb o g4 g3.size (al [U p3 (H D) c3,W O Z].toArray 100):=⟨TE.Yn _ (aU _),by rw[He];exact Zc⟩
   have e4:=He.symm;have iD4:Pv o g4 (U p3 (H D) c3) D:=by rw[He];exact Pv.Zf ⟨Im.WK o3.Zq (fun b hb=>K2.Yn b hb),o3.byte⟩ (Yt TE.Yn _)
   have r11:rd g4 ⟨g3.size,0,Y⟩ 2=X [U p3 (H D) c3,W O Z]:=Zy x11.2 rfl;have tb4:=gz.Zf k4;simp -implicitDefEqProofs only[go_sem,e4,r11];refine (Fc T g4 _ Z D iD4.bs nc tb4.tk).use ?_;rintro v5 g5 ⟨R5,b5⟩;obtain⟨p5,c5,E5,K5',rfl,o5⟩:∃p c E K,v5=.tuple [a2 [W O TN.p.r,W O TN.p.n,U p (H TN.l) c].toArray,W O K,W O E].toArray/\TD o g5 (U p (H TN.l) c) TN.l:=by
    obtain⟨r,k,E,w',rfl,ob,hk,_,hr⟩:=R5;have h1:r=TN:=by
     rw[Zmn];split at hr
     .rw[if_pos aac,OT hr.2]
     .rw[if_neg aac];exact hr.2.1
    rw[h1]at ob ⊢;have im:TD o g5 w' TN.l:=Im.WK ob.Zq (fun b hb=>k4.Yn b hb);obtain⟨p,c,rfl⟩:=im.ZP;exact⟨p,c,E,_,rfl,im⟩
   have DJ:=ZY k4.Yn b5;obtain⟨g6,Ly⟩:=ZQ (g5.push (al [W O TN.p.r,W O TN.p.n,U p5 (H TN.l) c5].toArray 105):Hp);have k6:Kp Wy o g4 o g6:=by rw[Ly];exact DJ.push _
   have x13:Yb o g6 g5.size (al [W O TN.p.r,W O TN.p.n,U p5 (H TN.l) c5].toArray 105):=⟨DJ.Yn _ (aU _),by rw[Ly];exact Zc⟩
   have e6:=Ly.symm;have K6:Kp Wy o h o g6:=(K2.trans k4).trans k6;have iD6:=iD4.Zf k6;have iV6:TD o g6 (U p5 (H TN.l) c5) TN.l:=by rw[Ly];exact o5.Zf (Yt DJ.Yn _)
   have A6:=(A2.Zo k4).Zo k6;have z3:=(y3.Zf k4).Zf k6;have z11:=x11.Zf k6;clear hn hc5 hb Ky Rn Bw q1 l3 ri;obtain⟨b,off,c,hn,hc5,hb,Ky⟩:=Tw A6.wd;have R6:=XP A6.wd.ZX.2;have Rn:=R6.Zb;rw[hn]at Rn;have Bw:=Za A6.wd.ZX.2;have q1:hc g6 ⟨h.size,1,Y⟩=X (W O a.ZV):=Zn z3.2;have l3:=Za z3.2;have rt:rd g6 ⟨g3.size,0,Y⟩ 2=X [U p3 (H D) c3,W O Z]:=Zy z11.2 rfl;have lt:=Za z11.2;have ra:rd g6 ⟨g5.size,0,Y⟩ 3=X [W O TN.p.r,W O TN.p.n,U p5 (H TN.l) c5]:=Zy x13.2 rfl;have la:=Za x13.2;have cb:=Ft T g6 o wb a.ZV (U p3 (H D) c3) D Z (U p5 (H TN.l) c5) TN K6.Yn iD6 iV6;simp -implicitDefEqProofs only[go_sem,e6];refine VS.z (g6.size) [12] (.p 0 (.p 1 (.p 2 (.q 3 (.p 4 (.q 5 (.p 6 (.q 7 (.q 8 (.q 9 (.s 10 (.p 11 (.w 12 .nil))))))))))))) mixed uf ?_;simp -implicitDefEqProofs only[go_sem,f0,f3,Rn,q1,rt,ra,Bw,l3,lt,la,hb,Kj];refine cb.use ?_;rintro _ g7 ⟨nb,o7,a7,rfl,b7,k7,N7⟩;have W7:=A6.wd.Zf k7 (by rintro t (rfl|rfl)<;>simp[Tg.of]);obtain⟨b',Zvi,c',g8,Nl,w8,k8,W8⟩:=DQ k7.Yn W7 a.ZV nb hi;rw[hn]at Nl;simp only[Value.slice.injEq,Option.some.injEq,Addr.mk.injEq,true_and,and_true]at Nl;obtain⟨⟨rfl,rfl⟩,rfl⟩:=Nl;have hb7:b<g7.size:=bh hb b7.size;have N8:=N7.Zf k8 (by rintro t rfl e;cases e);have K8:Kp Sy o h o7 g8:=((YQ K6).trans (YQ k7)).trans (YQ k8);unfold Zz at w8 ⊢;simp -implicitDefEqProofs only[go_sem,b7,w8,hb7,Kj];have kk:Kp (fun t=>t=.Zb\/t.of=X a.ZV) o g6 o7 g8:=(k7.mono fun t q=>by rcases q with rfl|rfl<;>exact .inr rfl).trans (k8.mono fun t q=>.inl q);exact⟨o7,Xq,_,K8,A6.fresh kk N8 W8⟩
def FA(YL:Nat->Nat)(j:Nat):List am:=(cR j).map fun i=>Zz (YL i)
theorem jp(YL:Nat->Nat)(j:Nat):FA YL (j+1)=FA YL j++[Zz (YL j)]:=by
 unfold FA;rw[cA,cB];rfl
theorem jq(YL:Nat->Nat)(j nb:Nat):FA (fun i=>if i=j then nb else YL i) j=FA YL j:=by
 unfold FA;apply List.map_congr_left;intro i hi;rw[bl]at hi;simp only;rw[if_neg nc]
set_option maxHeartbeats 4000000 in
theorem zQ(T:bK)(h:Hp)(o:Ow)(d:Vp o h):
  Zd ba T 36 #[] h fun v' h'=>∃wb YL o' Xq,v'=Zz wb/\Kp Sy o h o' h'/\QD o' h' wb YL Xq QL:=by
 refine Zd.XS [] Tryz.func36 ?_;obtain⟨wb,Zhv⟩:=ZQ (h.size);obtain⟨g1,Ns⟩:∃g1:Hp,g1=h.push (al (X7 (fun _=>0) ⟨U Y 0 0,U Y 0 0,U Y 0 0⟩).toArray 97):=⟨_,rfl⟩
 have e1:=Ns.symm;unfold X7 at e1;simp only at e1;have k1:Kp Sy o h (QS o wb .world) g1:=by rw[Ns,Zhv];exact ((Kp.refl d Sy).push _).PI (aU _) Hg trivial
 have B1:Ww (QS o wb .world) .world g1 wb (al (X7 (fun _=>0) ⟨U Y 0 0,U Y 0 0,U Y 0 0⟩).toArray 97):=⟨XT,by rw[Ns,Zhv];exact Zc⟩
 simp -implicitDefEqProofs only[go_sem,e1];rw[<-Zhv];refine VS.Yj (fun F g=>F 1=a1 (X ⟨wb,0,Y⟩)/\∃(j:Nat) (o':Ow) (YL:Nat->Nat) (v:am),j<=5/\F 5=W O j/\Kp Sy o h o' g/\Ww o' .world g wb (al (X7 (fun _=>0) ⟨v,U Y 0 0,U Y 0 0⟩).toArray 97)/\Xz o' .Zb 98 1 g v j (FA YL j)/\∀i,i<j->∃a,Z5 o' g wb i (YL i) a (Yr i true [] 0 JE))
  (fun F _=>5-(vi (F 5)).toNat) rfl ⟨rfl,0,_,fun _=>0,U Y 0 0,nc,rfl,k1,B1,Xz.nil _ _ _ _ _,fun i hi=>by omega⟩ ?_
 clear B1 k1 e1 Ns;rintro F2 g2 ⟨f1,j,o2,YL,v,hj,f5,K2,B2,O2,N2⟩;by_cases ZU:j<5
 .have Z8:(j:Int)<5:=nc;obtain⟨pv,cv,rfl,_⟩:=O2.ZP;have R2:=XP B2.2;have Rn:=R2.Zb;simp only at Rn;have Bw:=Za B2.2;have cb:Zd ba T 49 #[W O j,a2 #[U Y 0 0,W O 0],a2 #[W O 0,W O 0,U Y 0 0]] g2 _:=Ft T g2 o2 wb j (U Y 0 0) [] 0 (U Y 0 0) JE K2.Yn ⟨Im.nil _ _ _ _,fun x hx=>by cases hx⟩ (Im.nil _ _ _ _);simp -implicitDefEqProofs only[go_sem,f1,f5,Z8];refine VS.z (g2.size) [10,13] (.p 0 (.p 1 (.p 2 (.p 3 (.q 4 (.p 5 (.p 6 (.p 7 (.s 8 (.s 9 (.w 10 (.p 11 (.p 12 (.w 13 .nil)))))))))))))) mixed uf ?_;simp -implicitDefEqProofs only[go_sem,f1,f5,Rn,Bw];refine cb.use ?_;rintro _ g3 ⟨nb,o3,a3,rfl,b3,k3,N3⟩;unfold Zz;simp -implicitDefEqProofs only[go_sem,b3];obtain⟨g4,He⟩:=ZQ (g3.push (al [Zz nb].toArray 98):Hp);have e4:=He.symm;unfold Zz at e4;rw[e4];have k4:Kp Wy o3 g3 o3 g4:=by rw[He];exact Yt k3.Yn _
  have B4:=(B2.Zf k3 (by rintro (e|e)<;>cases e)).Zf k4 (fun q=>q);have O4:=(O2.Zf k3 (by rintro (e|e)<;>cases e)).Zf k4 (fun q=>q);have N4:=N3.Zo k4;have M4:∀i,i<j->∃a,Z5 o3 g4 wb i (YL i) a (Yr i true [] 0 JE):=fun i hi=>by
   obtain⟨a,N⟩:=N2 i hi;refine⟨a,(N.Zf k3 ?_).Zo k4⟩;rintro t (rfl|rfl) e
   .have:=Option.some.inj e;omega
   .have:=Option.some.inj e;omega
  have x4:g4[g3.size]? = X (al [Zz nb].toArray 98):=by rw[He];exact Zc
  have src:Sl 1 g4 (U (X ⟨g3.size,0,Y⟩) 1 1) 1 [Zz nb]:=⟨_,1,rfl,rfl,fun _=>⟨g3.size,0,rfl,fun i hi=>by
   rw[Zn x4,YR,Nat.zero_add];exact bT hi⟩⟩
  refine QV (E:=98) (n:=1) (bytes:=8) (k:=1) Zj5 Tryz.underlying94 ZrD ZrF rfl ZrE O4 k4.Yn src rfl nc nc ?_;intro v' o5 g5 O5 k5 _;have k5:Kp (fun u=>u=.Zb) o3 g4 o5 g5:=k5;obtain⟨p5,c5,rfl,_⟩:=O5.ZP;have B5:=B4.Zf k5 Ih;have w5:=(XP B5.2).ZgY (U p5 (j+1) c5) rfl;have jg:=Za B5.2;obtain⟨g6,Ly⟩:∃g6,g6=g5.setIfInBounds wb (al (X7 (fun _=>0) ⟨U p5 (j+1) c5,U Y 0 0,U Y 0 0⟩).toArray 97):=⟨_,rfl⟩
  simp only at w5;rw[<-Ly]at w5;have k6:Kp (fun t=>t=.world) o5 g5 o5 g6:=by rw[Ly];exact (Kp.refl k5.Yn (fun t=>t=.world)).set B5.1 rfl _
  have B6:Ww o5 .world g6 wb (al (X7 (fun _=>0) ⟨U p5 (j+1) c5,U Y 0 0,U Y 0 0⟩).toArray 97):=⟨B5.1,by rw[Ly];exact ZS B5.2⟩
  have K6:Kp Sy o h o5 g6:=(((K2.trans (YQ k3)).trans (YQ k4)).trans (YQ k5)).trans (YQ k6);simp -implicitDefEqProofs only[go_sem,w5,jg,f5];unfold XK;refine⟨⟨f1,j+1,o5,(fun i=>if i=j then nb else YL i),U p5 (j+1) c5,ZU,rfl,K6,B6,?_,fun i hi=>?_⟩,?_⟩
  .rw[jp,jq];simp only[↓reduceIte];exact O5.Zf k6 Ih
  .by_cases e:i=j
   .subst e;refine⟨a3,?_⟩;simp only[↓reduceIte];exact (N4.Zf k5 (by rintro t rfl e;cases e)).Zf k6 (by rintro t rfl e;cases e)
   .obtain⟨a,N⟩:=M4 i nc;refine⟨a,?_⟩;simp only[if_neg e];exact (N.Zf k5 (by rintro t rfl e;cases e)).Zf k6 (by rintro t rfl e;cases e)
  .simp only[vi,Zr,↓reduceIte,f5];omega
 .have Xp:¬(j:Int)<5:=nc;obtain rfl:j=5:=nc;simp -implicitDefEqProofs only[go_sem,f1,f5,Xp];exact⟨wb,YL,o2,_,rfl,K2,⟨B2,O2,⟨[],rfl,Xz.nil _ _ _ _ _,fun x hx=>by cases hx⟩,Xz.nil _ _ _ _ _⟩,fun i hi=>N2 i hi⟩
theorem jr(T:bK)(h:Hp)(u:am)(l:List Cm)(s:Ts J2.C 5 h u l)(hl:(H l)<=2199023255552):
  Zd ba T 38 #[u] h fun v' h'=>Qv h.size 25 J2.C 5 h' v' l/\Zk h.size h h':=by
 obtain⟨p,c,rfl,Wr⟩:=QC s;refine Zd.XS [_] Tryz.func38 ?_
 cases p with
 | none=>
  have:l=[]:=by
   cases l with
   | nil=>rfl
   | cons x l=>obtain⟨b,o,hp,_⟩:=Wr Hg;cases hp
  subst this;simp -implicitDefEqProofs only[go_sem];exact Qv.nil _ _ _ _ _
 | some a=>
  simp -implicitDefEqProofs only[go_sem];refine SP (E:=25) (B:=h.size) (n:=5) (bytes:=40) AX Tryz.underlying46 ZfU wm rfl ZjY (fun _=>rfl) (Qv.Eo _ _ J2.C 5 _ _) Hg (s.Yy (Zk.push (aU _) _)) KQ nc ?_;intro v' h' ho hb _;simp -implicitDefEqProofs only[go_sem];exact⟨by simpa using ho,(Zk.push (aU _) _).trans hb⟩
structure Raw where
 k:Int
 n:Int
 a:Int
 b:Int
 data:List Nat
def Raw.ac(x:Raw):Ac:=⟨x.k,x.n.toNat,x.a.toNat,x.b,x.data⟩
def Raw.err(x:Raw):Int:=U2 x.k x.n x.a x.b (H x.data)
def Wq(x:Raw × am):List am:=Fv x.1.k x.1.n x.1.a x.1.b x.2
def Uj:List Raw->Int
 | []=>0
 | x :: l=>if x.err≠0 then x.err else Uj l
def SA(l:List Raw):Int:=if 100000<(H l) then 1 else Uj l
theorem FB(x:Raw × am):(Wq x).length=5:=rfl
theorem FC{l:List Raw}{j:Nat}(hj:j<(H l))(h0:∀x∈l.take j,x.err=0)(h1:l[j].err≠0):Uj l=l[j].err:=by
 induction l generalizing j with
 | nil=>simp at hj
 | cons y l ih=>
  cases j with
  | zero=>unfold Uj;rw[if_pos (by simpa using h1)];rfl
  | succ j=>
   unfold Uj;rw[if_neg (by simpa using h0 y Hg)];exact ih (by simpa using hj) (fun x hx=>h0 x (by simp[hx])) (by simpa using h1)
theorem On{l:List Raw}(h0:∀x∈l,x.err=0):Uj l=0:=by
 induction l with
 | nil=>rfl
 | cons y l ih=>unfold Uj;rw[if_neg (by simpa using h0 y Hg)];exact ih fun x hx=>h0 x (by simp[hx])
theorem FD{x:Raw}(h:x.err=0):(1<=x.k/\x.k<=9)/\(0<=x.n/\x.n<=4)/\(0<=x.a/\x.a<=1048576)/\(0<=x.b/\x.b<=100000)/\(H x.data)<=2000:=by
 unfold Raw.err U2 at h;by_cases c1:1<=x.k/\x.k<=9
 case neg=>rw[if_pos c1]at h;cases h
 rw[if_neg (by simpa using c1)]at h;by_cases c2:(Jh x.k/\¬(0<=x.n/\x.n<=4))\/(UR x.k/\¬(0<=x.a/\x.a<=1048576))\/(x.k=8/\¬(0<=x.b/\x.b<=100000))
 .rw[if_pos c2]at h;cases h
 rw[if_neg c2]at h;by_cases c3:2000<(H x.data)
 .rw[if_pos c3]at h;cases h
 rw[if_neg c3]at h;by_cases c4:(¬Jh x.k/\x.n≠0)\/(¬UR x.k/\x.a≠0)\/(x.k≠8/\x.b≠0)\/(x.k≠1/\0<(H x.data))
 .rw[if_pos c4]at h;cases h
 refine⟨c1,?_,?_,?_,nc⟩
 .by_cases q:Jh x.k
  .exact a0 fun e=>c2 (.inl ⟨q,e⟩)
  .have:x.n=0:=a0 fun e=>c4 (.inl ⟨q,e⟩);omega
 .by_cases q:UR x.k
  .exact a0 fun e=>c2 (.inr (.inl ⟨q,e⟩))
  .have:x.a=0:=a0 fun e=>c4 (.inr (.inl ⟨q,e⟩));omega
 .by_cases q:x.k=8
  .exact a0 fun e=>c2 (.inr (.inr ⟨q,e⟩))
  .have:x.b=0:=a0 fun e=>c4 (.inr (.inr (.inl ⟨q,e⟩)));omega
def Xh(xs:List (Raw × am)):List Raw:=xs.map (·.1)
def LC:Ow:=fun _=>Y
theorem FE(h:Hp):Vp LC h:=fun _ _=>rfl
theorem jt{S:Tg->Prop}{h h':Hp}{o':Ow}(k:Kp S LC h o' h'):Zk h.size h h':=
 ⟨k.size,fun b hb=>(k.Zf b hb fun t ht=>by cases ht).1⟩
def ud:List am:=[W O 0,aw false,aw false,aw false,aw false,aw false,U Y 0 0,W O 0,W O 0,W O 0,W O 0,W O 0,U Y 0 0]
def ju(w:Wd)(lv tv:am):List am:=[W O w.Zp.length,aw (w.Zb 0).up,aw (w.Zb 1).up,aw (w.Zb 2).up,aw (w.Zb 3).up,aw (w.Zb 4).up,lv,W O (w.Yv 0),W O (w.Yv 1),W O (w.Yv 2),W O (w.Yv 3),W O (w.Yv 4),tv]
structure jv(h:Hp)(R:List am)(w:Wd)(lv tv:am)(vs:List am):Prop where
 cells:R=ju w lv tv
 Zmo:Ts (fun v=>[v]) 1 h lv vs
 each:AV (fun v l=>Ts J2.C 5 h v l) vs [(w.Zb 0).ZB,(w.Zb 1).ZB,(w.Zb 2).ZB,(w.Zb 3).ZB,(w.Zb 4).ZB]
 ZE:Ts Fi 5 h tv w.ZE
 ZH4:AV (fun v (l:List Cm)=>∃p c,v=U p (H l) c/\(H l)<=c) vs [(w.Zb 0).ZB,(w.Zb 1).ZB,(w.Zb 2).ZB,(w.Zb 3).ZB,(w.Zb 4).ZB]
def Vz(B:Nat)(h:Hp)(R:List am)(w:Wd)(lv tv:am)(vs:List am):Prop:=∀G:Hp,(∀b,B<=b->b<h.size->G[b]? = h[b]?)->jv G R w lv tv vs
theorem Vz.at{B:Nat}{h:Hp}{R:List am}{w:Wd}{lv tv:am}{vs:List am}(s:Vz B h R w lv tv vs):jv h R w lv tv vs:=s h fun _ _ _=>rfl
theorem Vz.Yy{B:Nat}{h h':Hp}{R:List am}{w:Wd}{lv tv:am}{vs:List am}(s:Vz B h R w lv tv vs)(b:Zk h.size h h'):Vz B h' R w lv tv vs:=
 fun G hG=>s G fun k h1 h2=>by rw[hG k h1 (bh h2 b.size)];exact b.block k h2
theorem Vz.set{B:Nat}{h:Hp}{R:List am}{w:Wd}{lv tv:am}{vs:List am}(s:Vz B h R w lv tv vs)(hk:k<B)(x:Obj):Vz B (h.setIfInBounds k x) R w lv tv vs:=
 fun G hG=>s G fun b h1 h2=>by rw[hG b h1 (by simpa using h2),bx,if_neg nc]
def DS(B:Nat)(h':Hp)(v':am)(l:List Raw):Prop:=
 if SA l=0 then ∃R lv tv vs,v'=.tuple #[a2 R.toArray,W O 0]/\Vz B h' R (TL (l.map Raw.ac)) lv tv vs
 else v'=.tuple #[a2 ud.toArray,W O (SA l)]
theorem DT{h:Hp}{v:am}{l:List (Raw × am)}(s:Ts Wq 5 h v l):∃p c,v=U p (H l) c/\(l≠[]->∃b o,p=X ⟨b,o,Y⟩/\b<h.size/\∀i (hi:i<(H l)),rd h ⟨b,o+i*5,Y⟩ 5=X (Wq l[i])):=by
 obtain⟨p,c,hv,hh⟩:=s.open FB aaa;refine⟨p,c,hv,fun Y4=>?_⟩;obtain⟨b,o,h1,h2,h3⟩:=hh Y4;exact⟨b,o,h1,h2,fun i hi=>(h3 i hi).rd (by simp[Wq,Fv]) rfl⟩
def cJ(w:Wd)(j:Nat)(lv tv:am):List am:=[W O w.Zp.length,aw (if 0<j then (w.Zb 0).up else false),aw (if 1<j then (w.Zb 1).up else false),aw (if 2<j then (w.Zb 2).up else false),aw (if 3<j then (w.Zb 3).up else false),aw (if 4<j then (w.Zb 4).up else false),lv,W O (w.Yv 0),W O (w.Yv 1),W O (w.Yv 2),W O (w.Yv 3),W O (w.Yv 4),tv]
theorem mG(w:Wd)(j:Nat)(lv tv:am):(cJ w j lv tv).length=13:=rfl
theorem Zhw(w:Wd)(j:Nat)(lv tv:am)(hj:j<5):(cJ w j lv tv).set (1+j) (aw (w.Zb j).up)=cJ w (j+1) lv tv:=by
 match j,hj with
 | 0,_=>rfl
 | 1,_=>rfl
 | 2,_=>rfl
 | 3,_=>rfl
 | 4,_=>rfl
theorem ZdB(w:Wd)(j:Nat)(lv lv' tv:am):(cJ w j lv tv).set 6 lv'=cJ w j lv' tv:=rfl
def KB(w:Wd)(j:Nat):List (List Cm):=(cR j).map fun i=>(w.Zb i).ZB
theorem cK(w:Wd)(j:Nat):KB w (j+1)=KB w j++[(w.Zb j).ZB]:=by
 unfold KB;rw[cA,cB];rfl
def jw(t:Tg):Prop:=t=.ZB 100\/t=.ZB 101
theorem LD{α β:Type}{R R':α->β->Prop}{l:List α}{k:List β}(s:AV R l k)(h:∀x y,R x y->R' x y):AV R' l k:=by
 induction s with
 | nil=>exact .nil
 | cons a _ ih=>exact .cons (h _ _ a) ih
theorem rD(l:List am):ZT (fun v=>[v]) l=l:=by
 induction l with
 | nil=>rfl
 | cons x l ih=>
  have:ZT (fun v=>[v]) (x :: l)=[x]++ZT (fun v=>[v]) l:=by simp[ZT]
  rw[this,ih];rfl
theorem mH{o:Ow}{t:Tg}{E:TypeId}{n m:Nat}{h G:Hp}{v:am}{cs:List am}(s:Xz o t E n h v m cs)(hG:∀b,o b=X t->b<h.size->G[b]? = h[b]?):Xz o t E n G v m cs:=by
 rcases s with s|⟨b',j,cap,pre,ZG,h1,rfl,h3,h4,h5,h6,h7⟩
 .exact .inl s
 .exact .inr ⟨b',j,cap,pre,ZG,h1,rfl,by rw[hG b' h1 (Za h3)];exact h3,h4,h5,h6,h7⟩
theorem Zmp{o:Ow}{n m:Nat}{h G:Hp}{v:am}{cs:List am}(s:Im o n h v m cs)(hG:∀b,Yf v=X b->b<h.size->G[b]? = h[b]?):Sl n G v m cs:=by
 obtain⟨⟨p,c,rfl,hl,hcc⟩,⟨p',c',he,hm⟩,hf⟩:=s;simp only[Value.slice.injEq,true_and]at he;obtain⟨rfl,rfl⟩:=he;refine⟨p,c,rfl,hl,fun Y4=>?_⟩;obtain⟨b,off,rfl,XE⟩:=hcc Y4;have kJ:c≠0:=by
  intro e;have:m=0:=nc;rw[this,Nat.zero_mul]at hl;exact Y4 (List.eq_nil_of_length_eq_zero hl)
 have hb:Yf (U (X ⟨b,off,Y⟩) m c)=X b:=by unfold Yf;simp only;rw[if_neg kJ]
 refine⟨b,off,rfl,fun i hi=>?_⟩;have h1:=XE i hi;have h2:=hG b hb (hf b hb).1;unfold V.hc at h1 ⊢;rw[h2];exact h1
theorem zR{S:Tg->Prop}{h h':Hp}{o':Ow}{t:Tg}{b:Nat}(k:Kp S LC h o' h')(hb:o' b=X t):h.size<=b:=by
 refine a0 fun q=>?_;obtain⟨_,h2⟩:=k.Zf b nc (fun t ht=>by cases ht);rw[hb]at h2;cases h2
set_option maxHeartbeats 8000000 in
theorem ZdC(T:bK)(h:Hp)(v:am)(xs:List (Raw × am))(hv:Ts Wq 5 h v xs)(hx:∀x∈xs,Pv LC h x.2 x.1.data)(tb:eG LC h)(Bd:xs.length<=4611686018427387904)(inv:(∀x∈Xh xs,x.err=0)->xs.length<=100000->∀j,j<=xs.length->WOk (TL (((Xh xs).take j).map Raw.ac))):
  Zd ba T 19 #[v] h fun v' h'=>Zk h.size h h'/\DS h.size h' v' (Xh xs):=by
 obtain⟨p,c,rfl,XE⟩:=DT hv;refine Zd.MQ [_] Tryz.func19 ?_;obtain⟨h1,Xk⟩:=ZQ (h.push (.cells ud.toArray 42):Hp);have e1:=Xk.symm;unfold ud at e1;have b1:Zk h.size h h1:=by rw[Xk];exact Zk.push (aU _) _
 have s1:h1.size=h.size+1:=by rw[Xk];simp
 have x2:h1[h.size]? = X (.cells ud.toArray 42):=by rw[Xk];exact Zc
 have rl:(Xh xs).length=xs.length:=by unfold Xh;simp
 have rz:∀G:Hp,Zk h1.size h1 G->G[h.size]? = X (.cells ud.toArray 42):=fun G hG=>hG.get nc x2;have wz:∀G:Hp,Zk h1.size h1 G->wr G ⟨h.size,0,Y⟩ [.int .i64 0,.bool false,.bool false,.bool false,.bool false,.bool false,.slice Y 0 0,.int .i64 0,.int .i64 0,.int .i64 0,.int .i64 0,.int .i64 0,.slice Y 0 0]=X G:=fun G hG=>by
  rw[Ye (rz G hG) 0 _];have:(G.setIfInBounds h.size (.cells (Y9 ud 0 [.int .i64 0,.bool false,.bool false,.bool false,.bool false,.bool false,.slice Y 0 0,.int .i64 0,.int .i64 0,.int .i64 0,.int .i64 0,.int .i64 0,.slice Y 0 0]).toArray 42))=G:=GN (rz G hG);rw[if_pos ⟨by simp[ud],rfl⟩];exact congrArg X this
 have rr:∀G:Hp,Zk h1.size h1 G->rd G ⟨h.size,0,Y⟩ 13=X [.int .i64 0,.bool false,.bool false,.bool false,.bool false,.bool false,.slice Y 0 0,.int .i64 0,.int .i64 0,.int .i64 0,.int .i64 0,.int .i64 0,.slice Y 0 0]:=fun G hG=>Zy (rz G hG) rfl;have w0:=wz h1 (Zk.refl _ _);have r0:=rr h1 (Zk.refl _ _);have l0:=Za x2;by_cases Zfo:100000<xs.length
 .have zS:(xs.length:Int)>100000:=nc;have e2:SA (Xh xs)=1:=by unfold SA;rw[rl,if_pos Zfo]
  simp -implicitDefEqProofs only[go_sem,e1,zS,w0,r0];refine⟨b1,?_⟩;unfold DS;rw[e2,if_neg aaa];rfl
 have zS:¬(xs.length:Int)>100000:=nc;have Zhx:xs.length<=100000:=nc;have e2:SA (Xh xs)=Uj (Xh xs):=by unfold SA;rw[rl,if_neg Zfo]
 have BE:∀i (hi:i<xs.length),(Xh xs)[i]'(by rw[rl];exact hi)=xs[i].1:=fun i hi=>by unfold Xh;simp
 simp -implicitDefEqProofs only[go_sem,e1,zS];refine VS.Yj (fun F g=>F 0=.slice p xs.length c/\F 2=.pointer (X ⟨h.size,0,Y⟩)/\F 17=.slice p xs.length c/\F 18=.int .i64 xs.length/\Zk h1.size h1 g/\∃j:Nat,j<=xs.length/\F 19=.int .i64 j/\∀x∈(Xh xs).take j,x.err=0)
  (fun F _=>xs.length-(vi (F 19)).toNat) rfl ⟨rfl,rfl,rfl,rfl,Zk.refl _ _,0,bR _,rfl,fun x hx=>by simp at hx⟩ ?_
 rintro F2 g2 ⟨f0,f2,f17,f18,b2,j,hj,f19,hz⟩;by_cases ZU:j<xs.length
 .have Z8:(j:Int)<xs.length:=nc;obtain⟨bb,oo,rfl,Tm,Ky⟩:=XE (by intro e;rw[e]at ZU;simp at ZU);obtain⟨x,Pq⟩:=ZQ (xs[j]);have hxm:x∈xs:=by rw[Pq];exact ca ZU
  have iv:=hx x hxm;obtain⟨pd,cd,Pw⟩:=iv.1.ZP;have r1:rd g2 ⟨bb,oo+j*5,Y⟩ 5=X (Wq x):=by rw[QU (b1.trans (b2.mono nc)) Tm,Pq];exact Ky j ZU
  unfold Wq Fv at r1;rw[Pw]at r1;obtain⟨g3,hg3⟩:=ZQ (g2.push (.cells (Fv x.1.k x.1.n x.1.a x.1.b (.slice pd x.1.data.length cd)).toArray 36):Hp);have e3:=hg3.symm;have y3:g3[g2.size]? = X (.cells (Fv x.1.k x.1.n x.1.a x.1.b (.slice pd x.1.data.length cd)).toArray 36):=by rw[hg3];exact Zc
  have r3:rd g3 ⟨g2.size,0,Y⟩ 5=X (Fv x.1.k x.1.n x.1.a x.1.b (.slice pd x.1.data.length cd)):=Zy y3 rfl;unfold Fv at e3 r3;have b3:Zk h1.size h1 g3:=by rw[hg3];exact b2.YU b2.size _
  have ck:=EA T g3 x.1.k x.1.n x.1.a x.1.b pd x.1.data.length cd;unfold GH at ck;simp -implicitDefEqProofs only[go_sem,f0,f2,f17,f18,f19,Z8,r1,e3,r3];refine ck.use ?_;rintro _ g4 ⟨rfl,b4⟩;have B4:Zk h1.size h1 g4:=b3.trans (b4.mono b3.size);have exr:x.1.err=U2 x.1.k x.1.n x.1.a x.1.b x.1.data.length:=rfl;rw[<-exr];by_cases hex:x.1.err=0
  .simp -implicitDefEqProofs only[go_sem,hex,f19];unfold XK;refine⟨⟨f0,f2,f17,f18,B4,j+1,ZU,rfl,fun y hy=>?_⟩,?_⟩
   .rw[Y2 _ j (by rw[rl];exact ZU),a6]at hy;rcases hy with hy|hy
    .exact hz y hy
    .rw[BE j ZU,<-Pq]at hy;have:y=x.1:=by simpa using hy
     rw[this];exact hex
   .simp only[vi,Zr,↓reduceIte,f19];omega
  .have w4:=wz g4 B4;have r4:=rr g4 B4;have l4:=Za (rz g4 B4);simp -implicitDefEqProofs only[go_sem,hex,w4,r4,f2,l4];refine⟨b1.trans (B4.mono nc),?_⟩;unfold DS;have:Uj (Xh xs)=x.1.err:=by
    have:=FC (l:=Xh xs) (j:=j) (by rw[rl];exact ZU) hz (by rw[BE j ZU,<-Pq];exact hex);rw[this,BE j ZU,<-Pq]
   rw[e2,this,if_neg hex];rfl
 have Xp:¬(j:Int)<xs.length:=nc;obtain rfl:j=xs.length:=nc;have XY:∀x∈Xh xs,x.err=0:=fun x hx=>hz x (by rw[aI nc];exact hx);have hzero:SA (Xh xs)=0:=by rw[e2];exact On XY
 have inv:=inv XY Zhx;simp -implicitDefEqProofs only[go_sem,f18,f19,Xp];refine (zQ T g2 LC (FE g2)).use ?_;rintro _ g3 ⟨wb,Zvl,o3,WA3,rfl,K3,A3⟩;unfold Zz;have bh2:Zk h.size h g2:=b1.trans (b2.mono nc);have kh2:Kp Sy LC h LC g2:=Kp.Gs (FE h) bh2 _;obtain⟨rE,jx⟩:=ZQ ((Xh xs).map Raw.ac);have Zmq:rE.length=xs.length:=by rw[jx,cg,rl]
 have inv:∀j,j<=xs.length->WOk (TL (rE.take j)):=fun j hj=>by
  have:=inv j hj;rw[jx,<-List.map_take];exact this
 simp -implicitDefEqProofs only[go_sem,f0,f2];refine VS.Yj (fun F g=>F 2=.pointer (X ⟨h.size,0,Y⟩)/\F 7=.pointer (X ⟨wb,0,Y⟩)/\F 31=.slice p xs.length c/\F 32=.int .i64 xs.length/\∃(j:Nat) (o':Ow) (YL:Nat->Nat) (Jv:WA),j<=xs.length/\F 33=.int .i64 j/\Kp Sy LC g2 o' g/\QD o' g wb YL Jv (TL (rE.take j)))
  (fun F _=>xs.length-(vi (F 33)).toNat) rfl ⟨f2,rfl,rfl,rfl,0,o3,Zvl,WA3,bR _,rfl,K3,A3⟩ ?_
 clear f0 f2 f17 f18 f19 K3 A3;rintro F4 g4 ⟨f2,f7,f31,f32,j,o4,Zvm,my,hj,f33,K4,A4⟩;by_cases ZU:j<xs.length
 .have Z8:(j:Int)<xs.length:=nc;obtain⟨bb,oo,rfl,Tm,Ky⟩:=XE (by intro e;rw[e]at ZU;simp at ZU);obtain⟨x,Pq⟩:=ZQ (xs[j]);have hxm:x∈xs:=by rw[Pq];exact ca ZU
  have hxe:x.1.err=0:=XY x.1 (by unfold Xh;exact List.mem_map_of_mem hxm);obtain⟨q1,q2,q3,q4,q5⟩:=FD hxe;have Kh4:Kp Sy LC h o4 g4:=kh2.trans K4;have iv:=(hx x hxm).Zf Kh4;obtain⟨pd,cd,Pw⟩:=iv.1.ZP;have r1:rd g4 ⟨bb,oo+j*5,Y⟩ 5=X (Wq x):=by rw[QU (jt Kh4) Tm,Pq];exact Ky j ZU
  unfold Wq Fv at r1;rw[Pw]at r1 iv;obtain⟨g5,zC⟩:=ZQ (g4.push (.cells (Fv x.1.k x.1.n x.1.a x.1.b (.slice pd x.1.data.length cd)).toArray 36):Hp);have e5:=zC.symm;have k5:Kp Wy o4 g4 o4 g5:=by rw[zC];exact Yt K4.Yn _
  have y5:g5[g4.size]? = X (.cells (Fv x.1.k x.1.n x.1.a x.1.b (.slice pd x.1.data.length cd)).toArray 36):=by rw[zC];exact Zc
  have r5:rd g5 ⟨g4.size,0,Y⟩ 5=X (Fv x.1.k x.1.n x.1.a x.1.b (.slice pd x.1.data.length cd)):=Zy y5 rfl;unfold Fv at e5 r5;have en:((x.1.n.toNat:Nat):Int)=x.1.n:=nc;have ea:((x.1.a.toNat:Nat):Int)=x.1.a:=nc;have cd2:=Zhr T g5 o4 wb Zvm my (TL (rE.take j)) x.1.ac (.slice pd x.1.data.length cd) k5.Yn (A4.Zo k5) (inv j hj) q1 (by unfold Raw.ac;simp only;omega) (iv.Zf k5) (by unfold Raw.ac;simp only;omega) ((tb.Zf Kh4).Zf k5);unfold Zz Fv Raw.ac at cd2;simp only at cd2;rw[en,ea]at cd2;have XC:TL (rE.take (j+1))=act (TL (rE.take j)) ⟨x.1.k,x.1.n.toNat,x.1.a.toNat,x.1.b,x.1.data⟩:=by
   rw[Y2 _ j (by rw[Zmq];exact ZU)];unfold TL;rw[cu];have:rE[j]'(by rw[Zmq];exact ZU)=⟨x.1.k,x.1.n.toNat,x.1.a.toNat,x.1.b,x.1.data⟩:=by
    simp only[jx,List.getElem_map,BE j ZU,<-Pq];rfl
   rw[this];rfl
  simp -implicitDefEqProofs only[go_sem,f2,f7,f31,f32,f33,Z8,r1,e5,r5];refine cd2.use ?_;rintro v' g6 ⟨o6,WA6,Zvo,k6,A6⟩;simp -implicitDefEqProofs only[go_sem,f33];unfold XK;refine⟨⟨f2,f7,f31,f32,j+1,o6,Zvo,WA6,ZU,rfl,(K4.trans (YQ k5)).trans k6,by rw[XC];exact A6⟩,?_⟩;simp only[vi,Zr,↓reduceIte,f33];omega
 have Xp:¬(j:Int)<xs.length:=nc;obtain rfl:j=xs.length:=nc;rw[aI nc]at A4;have okW:=inv xs.length (aU _);rw[aI nc]at okW;obtain⟨w,hw⟩:=ZQ (TL rE);rw[<-hw]at A4 okW;have U4:=XP A4.wd.ZX.2;have U4o:=U4.out;have Zvp:=Za A4.wd.ZX.2;obtain⟨pf,cf,hpf,_⟩:=Rj A4.wd.Zp;obtain⟨pt,ct,uc,_⟩:=A4.wd.ZE.ZP;obtain⟨tv,htv⟩:=ZQ (my.ZE);rw[uc]at U4o htv;obtain⟨kb,hkb⟩:=ZQ (g4.size);obtain⟨g5,zC⟩:=ZQ (g4.push (.cells [.int .i64 0,.bool false,.bool false,.bool false,.bool false,.bool false,.slice Y 0 0,.int .i64 (w.Yv 0),.int .i64 (w.Yv 1),.int .i64 (w.Yv 2),.int .i64 (w.Yv 3),.int .i64 (w.Yv 4),.slice pt w.ZE.length ct].toArray 42):Hp);have e5:=zC.symm;have y5:g5[kb]? = X (.cells [.int .i64 0,.bool false,.bool false,.bool false,.bool false,.bool false,.slice Y 0 0,.int .i64 (w.Yv 0),.int .i64 (w.Yv 1),.int .i64 (w.Yv 2),.int .i64 (w.Yv 3),.int .i64 (w.Yv 4),.slice pt w.ZE.length ct].toArray 42):=by rw[zC,hkb];exact Zc
 have k5:Kp Wy o4 g4 o4 g5:=by rw[zC];exact Yt K4.Yn _
 obtain⟨g6,Ly⟩:=ZQ (g5.setIfInBounds kb (.cells (cJ w 0 (.slice Y 0 0) (.slice pt w.ZE.length ct)).toArray 42):Hp);have w6:QP g5 ⟨kb,0,Y⟩ (.int .i64 w.Zp.length)=X g6:=by rw[Xe y5 0 _,Ly];rfl
 have l5:=Za y5;obtain⟨o6,ho6⟩:=ZQ (QS o4 kb (.ZB 101));have k6:Kp jw o4 g4 o6 g6:=by rw[ho6,Ly];exact ((Z1 k5).PI nc l5 (.inr rfl)).wh nc _
 have B6:Ww o6 (.ZB 101) g6 kb (.cells (cJ w 0 (.slice Y 0 0) (.slice pt w.ZE.length ct)).toArray 42):=⟨by rw[ho6];exact XT,by rw[Ly];exact ZS y5⟩
 have A5:=A4.Zo k5;have U5:=XP A5.wd.ZX.2;have U5f:=U5.Zp;rw[hpf]at U5f;have jg:=Za A5.wd.ZX.2;have nof:∀t,jw t->t.of≠Y:=by rintro t (rfl|rfl) e<;>cases e
 have non:∀t (i:Nat),i<5->jw t->t.of≠X i:=by
  rintro t i hi (rfl|rfl) e
  .have:=Option.some.inj e;omega
  .have:=Option.some.inj e;omega
 have W6:=A4.wd.Zf k6 nof;obtain⟨bn,Zvr,cn,hn,vB,hbn,Zhy⟩:=Tw W6;have U6n:=(XP W6.ZX.2).Zb;rw[hn]at U6n;have Zmr:=Za W6.ZX.2;simp -implicitDefEqProofs only[go_sem,f32,f33,Xp,f2,f7,U4o,Zvp,e5];rw[<-hkb];simp -implicitDefEqProofs only[go_sem,f7,U5f,jg,w6,l5,U6n,Zmr];refine VS.Yj (fun F g=>F 2=.pointer (X ⟨h.size,0,Y⟩)/\F 10=.pointer (X ⟨kb,0,Y⟩)/\F 54=.slice (X ⟨bn,Zvr,Y⟩) 5 cn/\F 55=.int .i64 5/\∃(j:Nat) (o':Ow) (lv:am) (vs:List am),j<=5/\F 56=.int .i64 j/\Kp jw o4 g4 o' g/\Ww o' (.ZB 101) g kb (.cells (cJ w j lv (.slice pt w.ZE.length ct)).toArray 42) /\
   Xz o' (.ZB 100) 46 1 g lv j vs/\AV (fun v l=>Im o' 5 g v l.length (ZT J2.C l)/\∀b,Yf v=X b->g4.size<=b) vs (KB w j))
  (fun F _=>5-(vi (F 56)).toNat) rfl ⟨f2,rfl,rfl,rfl,0,o6,.slice Y 0 0,[],nc,rfl,k6,B6,Xz.nil _ _ _ _ _,.nil⟩ ?_
 clear f2 f7 f31 f32 f33 B6 k6 w6 l5 U6n Zmr W6 Zhy hbn ho6 Ly y5 e5;rintro F7 g7 ⟨f2,f10,f54,f55,j,o7,lv,vs,hj,f56,K7,B7,O7,L7⟩;have W7:=A4.wd.Zf K7 nof;by_cases ZU:j<5
 .have Z8:(j:Int)<5:=nc;obtain⟨na,N4j⟩:=A4.nd j ZU;have N7:=N4j.Zf K7 (fun t q=>non t j ZU q);obtain⟨bn',ZAB,cn',Nl,ZH9,hbn,Zhy⟩:=Tw W7;rw[hn]at Nl;simp only[Value.slice.injEq,Option.some.injEq,Addr.mk.injEq,true_and,and_true]at Nl;obtain⟨⟨rfl,rfl⟩,rfl⟩:=Nl;have ri:=Zhy j ZU;unfold Zz at ri;have P7:=ZR N7.ZX.2 N7.pt.store.len;have P7u:=P7.up;have Zhd:=Za N7.ZX.2;have l7:=Za B7.2;obtain⟨g8,EI⟩:=ZQ (g7.setIfInBounds kb (.cells (cJ w (j+1) lv (.slice pt w.ZE.length ct)).toArray 42):Hp);have w8:QP g7 ⟨kb,1+j,Y⟩ (.bool (w.Zb j).up)=X g8:=by
   rw[Xe B7.2,if_pos ⟨by rw[mG];omega,rfl⟩,Zhw w j lv _ ZU,EI]
  have k8:Kp jw o7 g7 o7 g8:=by rw[EI];exact (Kp.refl K7.Yn jw).set B7.1 (.inr rfl) _
  have k8':Kp (fun t=>t=.ZB 101) o7 g7 o7 g8:=by rw[EI];exact (Kp.refl K7.Yn (fun t=>t=.ZB 101)).set B7.1 rfl _
  have B8:Ww o7 (.ZB 101) g8 kb (.cells (cJ w (j+1) lv (.slice pt w.ZE.length ct)).toArray 42):=⟨B7.1,by rw[EI];exact ZS B7.2⟩
  have O8:=O7.Zf k8' Ih;have L8:=LD L7 (R':=fun v l=>Im o7 5 g8 v l.length (ZT J2.C l)/\∀b,Yf v=X b->g4.size<=b) (fun v l q=>⟨q.1.Zf k8,q.2⟩);have K8:=K7.trans k8;have N8:=N7.Zf k8 (fun t q=>non t j ZU q);have P8l:=(ZR N8.ZX.2 N8.pt.store.len).ZB;obtain⟨pl,cl,Mp,_⟩:=Xz.ZP N8.pt.ZB;have Mp:na.ZB=.slice pl (w.Zb j).ZB.length cl:=Mp;rw[Mp]at P8l;have Tl:=N8.pt.ZB.ts;rw[Mp]at Tl;have Zdl:=Za N8.ZX.2;have l8:=Za B8.2;obtain⟨plv,clv,rfl,_⟩:=O8.ZP;have r8:hc g8 ⟨kb,6,Y⟩=X (.slice plv j clv):=Zn B8.2;have cc:=jr T g8 (.slice pl (w.Zb j).ZB.length cl) (w.Zb j).ZB Tl (by have:=okW.ZB j ZU;omega);simp -implicitDefEqProofs only[go_sem,f2,f10,f54,f55,f56,Z8,ri,P7u,Zhd,w8,l7,hbn];refine VS.z (g8.size) [8,10] (.p 0 (.q 1 (.p 2 (.p 3 (.p 4 (.q 5 (.s 6 (.s 7 (.w 8 (.p 9 (.w 10 .nil))))))))))) mixed uf ?_;simp -implicitDefEqProofs only[go_sem,f2,f10,r8,P8l,Zdl,l8];refine cc.use ?_;rintro v9 g9 ⟨o9,b9⟩;have k9:Kp Wy o7 g8 o7 g9:=ZY K8.Yn b9;have im9:Im o7 5 g9 v9 (w.Zb j).ZB.length (ZT J2.C (w.Zb j).ZB):=Im.WK o9.Zq (fun b hb=>K8.Yn b hb);have lo9:∀b,Yf v9=X b->g4.size<=b:=fun b hb=>bo K8.size (o9.Zq.ZX b hb);obtain⟨p9,c9,rfl⟩:=im9.ZP;obtain⟨g10,ZdD⟩:=ZQ (g9.push (.cells [.slice p9 (w.Zb j).ZB.length c9].toArray 46):Hp);have e10:=ZdD.symm;have qB:Kp Wy o7 g9 o7 g10:=by rw[ZdD];exact Yt k9.Yn _
  have K10:Kp jw o4 g4 o7 g10:=(K8.trans (Z1 k9)).trans (Z1 qB);have B10:=(B8.Zf k9 (fun q=>q)).Zf qB (fun q=>q);have O10:=(O8.Zf k9 (fun q=>q)).Zf qB (fun q=>q);have Zvt:=im9.Zf qB;have x10:g10[g9.size]? = X (.cells [.slice p9 (w.Zb j).ZB.length c9].toArray 46):=by rw[ZdD];exact Zc
  have src:Sl 1 g10 (.slice (X ⟨g9.size,0,Y⟩) 1 1) 1 [.slice p9 (w.Zb j).ZB.length c9]:=⟨_,1,rfl,rfl,fun _=>⟨g9.size,0,rfl,fun i hi=>by
   rw[Zn x10,YR,Nat.zero_add];exact bT hi⟩⟩
  simp -implicitDefEqProofs only[go_sem,b9,e10];refine⟨by rw[ZdD];exact b9.YU b9.size _,?_⟩;refine QV (E:=46) (n:=1) (bytes:=24) (k:=1) Zj2 Tryz.underlying38 Zq3 Zq5 rfl Zq4 O10 K10.Yn src rfl nc nc ?_;intro v11 o11 g11 O11 tX _;have tX:Kp (fun u=>u=.ZB 100) o7 g10 o11 g11:=tX;obtain⟨p11,c11,rfl,_⟩:=O11.ZP;have B11:=B10.Zf tX Ih;have l11:=Za B11.2;obtain⟨g12,au⟩:=ZQ (g11.setIfInBounds kb (.cells (cJ w (j+1) (.slice p11 (j+1) c11) (.slice pt w.ZE.length ct)).toArray 42):Hp);have w12:QP g11 ⟨kb,6,Y⟩ (.slice p11 (j+1) c11)=X g12:=by
   rw[Xe B11.2,if_pos ⟨by rw[mG];omega,rfl⟩,ZdB,au]
  have k12:Kp (fun t=>t=.ZB 101) o11 g11 o11 g12:=by rw[au];exact (Kp.refl tX.Yn (fun t=>t=.ZB 101)).set B11.1 rfl _
  have B12:Ww o11 (.ZB 101) g12 kb (.cells (cJ w (j+1) (.slice p11 (j+1) c11) (.slice pt w.ZE.length ct)).toArray 42):=⟨B11.1,by rw[au];exact ZS B11.2⟩
  simp -implicitDefEqProofs only[go_sem,f10,w12,l11,f56];unfold XK;refine⟨⟨f2,f10,f54,f55,j+1,o11,.slice p11 (j+1) c11,vs++[.slice p9 (w.Zb j).ZB.length c9],ZU,rfl,(K10.trans (tX.mono fun t q=>.inl q)).trans (k12.mono fun t q=>.inr q),B12,O11.Zf k12 Ih,?_⟩,?_⟩
  .rw[cK];refine bX (LD L8 fun v l q=>⟨((((q.1.Zf k9).Zf qB).Zf tX).Zf k12),q.2⟩) ⟨(Zvt.Zf tX).Zf k12,lo9⟩
  .simp only[vi,Zr,↓reduceIte,f56];omega
 have Xp:¬(j:Int)<5:=nc;obtain rfl:j=5:=nc;have bx7:Yb o7 g7 h.size (.cells ud.toArray 42):=Yb.Zf (Yb.Zf (o:=LC) ⟨rfl,rz g2 b2⟩ K4) K7;have rk:rd g7 ⟨kb,0,Y⟩ 13=X (cJ w 5 lv (.slice pt w.ZE.length ct)):=Zy B7.2 rfl;obtain⟨g8,EI⟩:=ZQ (g7.setIfInBounds h.size (.cells (cJ w 5 lv (.slice pt w.ZE.length ct)).toArray 42):Hp);have w8:wr g7 ⟨h.size,0,Y⟩ (cJ w 5 lv (.slice pt w.ZE.length ct))=X g8:=by
  obtain⟨plv,clv,rfl,_⟩:=O7.ZP;rw[Ye bx7.2 0 _,EI];rfl
 have l7:=Za bx7.2;have r8:rd g8 ⟨h.size,0,Y⟩ 13=X (cJ w 5 lv (.slice pt w.ZE.length ct)):=Zy (by rw[EI];exact ZS bx7.2) rfl;have K7a:Kp Sy LC h o7 g7:=(kh2.trans K4).trans (YQ K7);have vl:vs.length=5:=by have:=O7.length;omega
 have bound:h.size<g4.size:=bh (Za (rz g2 b2)) K4.size;rw[show cJ w 5 lv (.slice pt w.ZE.length ct)=ju w lv (.slice pt w.ZE.length ct) from rfl]at rk w8 r8;unfold ju at rk w8 r8;simp -implicitDefEqProofs only[go_sem,f55,f56,Xp,f2,f10,rk,w8,l7,r8];refine⟨by rw[EI];exact (jt K7a).Zt (aU _) _,?_⟩;unfold DS;rw[hzero,if_pos rfl,<-jx,<-hw];refine⟨_,lv,.slice pt w.ZE.length ct,vs,rfl,fun G hG=>?_⟩;have wt:=W7.ZE;rw[uc]at wt;have Y4:∀b,b<g7.size->b≠h.size->G[b]? = g8[b]? -> G[b]? = g7[b]?:=fun b _ h2 e=>by rw[e,EI,bx,if_neg (fun e=>h2 e.symm)]
 have hs8:g8.size=g7.size:=by rw[EI];simp
 have Zq:∀t,∀b,o7 b=X t->b<g7.size->G[b]? = g7[b]?:=fun t b q1 q2=>Y4 b q2 (fun e=>by rw[e,bx7.1]at q1;cases q1) (hG b (zR K7a q1) nc);refine⟨rfl,⟨by rw[rD,vl];exact (mH O7 (Zq _)).sl⟩,?_,⟨(mH wt (Zq _)).sl⟩,LD (k:=KB w 5) L7 fun v l q=>q.1.fits⟩;refine LD (k:=KB w 5) L7 fun v l q=>⟨Zmp q.1 fun b hb ZU=>?_⟩
 have:=q.2 b hb;exact Y4 b ZU nc (hG b nc nc)
structure CmI(C:List Cm)(w v:Wd)(m:Nat):Prop where
 nd:∀i,i<5->Ub C i (v.Zb i)
 Wp:∀i,i<5->∀l∈(v.Zb i).Zg,Ua C l
 Nw:v.Zp=w.Zp
 sum:Vy (fun i=>(v.Zb i).Zg.length)<=Vy (fun i=>(w.Zb i).Zg.length)+m
 wait:Vy (fun i=>(v.Zb i).Zj.length)=Vy (fun i=>(w.Zb i).Zj.length)
 ZE:v.ZE=w.ZE
 Yv:v.Yv=w.Yv
theorem jy{C:List Cm}{w:Wd}{l:YF}(h1:∀i,i<5->Ub C i (w.Zb i))(h2:∀i,i<5->∀l∈(w.Zb i).Zg,Ua C l)(hl:Ua C l):CmI C w (Q3 w l) 1:=by
 have hto:l.to.toNat<5:=by have:=hl.to;omega
 unfold Q3;split
 .refine⟨fun i hi=>?_,fun i hi x hx=>?_,rfl,?_,?_,rfl,rfl⟩
  .unfold Wd.set;by_cases e:i=l.to.toNat
   .simp only[if_pos e];rw[e];exact { h1 _ hto with }
   .simp only[if_neg e];exact h1 i hi
  .unfold Wd.set at hx;by_cases e:i=l.to.toNat
   .simp only[if_pos e]at hx;rcases a6.1 hx with hx|hx
    .exact h2 _ hto x hx
    .have:x=l:=by simpa using hx
     rw[this];exact hl
   .simp only[if_neg e]at hx;exact h2 i hi x hx
  .have:=Rk w l.to.toNat { w.Zb l.to.toNat with Zg:=(w.Zb l.to.toNat).Zg++[l] } (fun n=>n.Zg.length) hto;unfold Wd.set;simp only[aa,bp]at this ⊢;omega
  .have:=Rk w l.to.toNat { w.Zb l.to.toNat with Zg:=(w.Zb l.to.toNat).Zg++[l] } (fun n=>n.Zj.length) hto;unfold Wd.set;simp only at this ⊢;omega
 .exact⟨h1,h2,rfl,nc,rfl,rfl,rfl⟩
theorem ZdE{C:List Cm}:∀(ls:List YF) (w:Wd),(∀i,i<5->Ub C i (w.Zb i))->(∀i,i<5->∀l∈(w.Zb i).Zg,Ua C l)->(∀l∈ls,Ua C l)->CmI C w (ls.foldl Q3 w) (H ls):=by
 intro ls
 induction ls with
 | nil=>intro w h1 h2 _;exact⟨h1,h2,rfl,Hg,rfl,rfl,rfl⟩
 | cons l ls ih=>
  intro w h1 h2 h3;have a:=jy h1 h2 (h3 l Hg);have b:=ih (Q3 w l) a.nd a.Wp (fun x hx=>h3 x (by simp[hx]));refine⟨b.nd,b.Wp,by rw[bg,b.Nw,a.Nw],?_,by rw[bg,b.wait,a.wait],by rw[bg,b.ZE,a.ZE],by rw[bg,b.Yv,a.Yv]⟩;have h4:=b.sum;have h5:=a.sum;simp only[bg,a5];omega
theorem WI.ZdF{C:List Cm}{w u v:Wd}{m:Nat}(h:WI C k w)(c:CmI C u v m)(hu1:u.Zb=w.Zb)(hu2:∀l∈u.Zp,l∈w.Zp)(hu3:u.ZE=w.ZE)(hu4:u.Yv=w.Yv)(hm:u.Zp.length+m<=w.Zp.length+1):WI C (k+1) v:=by
 have hs:=c.sum;have hw:=c.wait;rw[hu1]at hs hw;have h1:=h.room;have h2:=h.wait;refine⟨c.nd,c.Wp,fun l hl=>h.Nw l (hu2 l (by rw[<-c.Nw];exact hl)),?_,?_,fun i=>by rw[c.Yv,hu4];have:=h.Yv i;omega⟩
 .rw[c.Nw];omega
 .rw[c.ZE,hu3,hw];omega
theorem Zhz{C:List Cm}{w:Wd}(h:WI C k w)(at':Nat)(comes stays:Bool):WI C (k+1) (pick w at' comes stays):=by
 unfold pick;split
 .exact h.more
 .rename_i l hl;have lV:l∈w.Zp:=List.mem_of_getElem? hl;have hll:=h.Nw l lV;have el:(w.Zp.eraseIdx (at'%w.Zp.length)).length+1<=w.Zp.length+1:=by
   have:=List.length_eraseIdx_le w.Zp (at'%w.Zp.length);omega
  have el2:(w.Zp.eraseIdx (at'%w.Zp.length)).length<=w.Zp.length:=nc
  cases comes with
  | true=>
   cases stays with
   | true=>exact h.ZdF (u:=w) (jy h.nd h.Wp hll) rfl (fun l q=>q) rfl rfl nc
   | false=>exact h.ZdF (u:={ w with Zp:=w.Zp.eraseIdx (at'%w.Zp.length) }) (jy h.nd h.Wp hll) rfl (fun l q=>b6 q) rfl rfl el
  | false=>
   cases stays with
   | true=>exact h.more
   | false=>exact h.ZdF (u:={ w with Zp:=w.Zp.eraseIdx (at'%w.Zp.length) }) (m:=0) ⟨h.nd,h.Wp,rfl,Hg,rfl,rfl,rfl⟩ rfl (fun l q=>b6 q) rfl rfl (by simp only;omega)
def Wg(rc:List Nat):Cm:=⟨Xv ((Ja rc).drop 22) 0,Xv ((Ja rc).drop 22) 1,Xv ((Ja rc).drop 22) 2,Xv ((Ja rc).drop 22) 3,Xv ((Ja rc).drop 22) 4⟩
theorem zT(n:Nd)(x:Cm):(Rc n x).Zj.length<=n.Zj.length+1:=by
 unfold Rc;split
 .omega
 .simp
theorem zU{C:List Cm}{w:Wd}(h:WI C k w)(hi:i<5){rc:List Nat}(hc:Wg rc∈C):WI C (k+1) (JN w i rc):=by
 unfold JN;split
 .split
  .refine⟨h.nd,h.Wp,h.Nw,bo h.room (br _ (bG k)),bo h.wait (bG k),fun j=>?_⟩;have h1:=h.Yv j;have h2:=h.Yv i;simp only;split<;>omega
  .rename_i q;have e:Xo rc (w.Zb i).ZB.length=Wg rc:=by
    unfold Xo Wg;rw[if_pos (by simpa using q)]
   rw[e];split
   .have hw:=h.wait;refine⟨h.nd,h.Wp,h.Nw,bo h.room (br _ (bG k)),by simp only[aa,bp];omega,fun j=>by have:=h.Yv j;simp only;omega⟩
   .rw[Sh];have ha:=Ze7 (h.nd i hi) hc;have s1:(add (w.Zb i) (Wg rc)).Zg=(w.Zb i).Zg:=by unfold add;split<;>rfl
    have s2:(Rc (add (w.Zb i) (Wg rc)) (Wg rc)).Zg=(w.Zb i).Zg:=by unfold Rc;split<;>exact s1
    have s3:=zT (add (w.Zb i) (Wg rc)) (Wg rc);have s4:=(add_same (w.Zb i) (Wg rc)).1;refine h.out hi ?_ (fun l hl=>by cases hl) (by simp only[s2];exact h.Wp i hi) (by simp only[s2];simp) (by simp only[List.length_nil];rw[s4]at s3;omega);unfold Rc;simp only;split
    .exact ha
    .exact { ha with }
 .exact h.more
theorem Ze9{C:List Cm}(hC:(H C)<=100000){w:Wd}(h:WI C k w)(a:Ac)(hi:a.ZV<5)(hc:Wg a.data∈C):WI C (k+1) (act w a):=by
 have hn:=h.nd a.ZV hi;have hb:=h.Wp a.ZV hi;unfold act;split
 .exact zU h hi hc
 split
 .obtain⟨l1,l2,l3⟩:=zN hn;rw[Sh];exact h.out hi l1 (fun l hl=>by cases hl) (by simp only[l2];exact hb) (by simp only[l2];simp) (by simp only[l3];simp)
 split
 .obtain⟨s1,s2,s3,s4,s5⟩:=Zhp hi hC hn hb;exact h.out hi s1 s2 s3 nc nc
 split
 .exact Zhz h _ _ _
 split
 .have c:=ZdE w.Zp { w with Zp:=[] } h.nd h.Wp h.Nw;exact h.ZdF c rfl (fun l hl=>by cases hl) rfl rfl Hg
 split
 .obtain⟨c1,c2⟩:=ry hn a.Zf;rw[Sh];rcases c2 with⟨c2,c3⟩|c2
  .exact h.out hi c1 (fun l hl=>by cases hl) (by simp only[c2];intro l hl;cases hl) (by simp only[c2];simp) (by simp only[c3];simp)
  .exact h.out hi c1 (fun l hl=>by cases hl) (by simp only[c2];exact hb) (by simp only[c2];simp) (by simp only[c2];simp)
 .obtain⟨c1,c2⟩:=DR hn;rw[Sh];rcases c2 with⟨c2,c3⟩|c2
  .exact h.out hi c1 (fun l hl=>by cases hl) (by simp only[c2];intro l hl;cases hl) (by simp only[c2];simp) (by simp only[c3];simp)
  .exact h.out hi c1 (fun l hl=>by cases hl) (by simp only[c2];exact hb) (by simp only[c2];simp) (by simp only[c2];simp)
theorem Oo(C:List Cm):WI C 0 QL:=by
 refine⟨fun i hi=>HK Hg EL.zero,(fun i hi l hl=>by cases hl),(fun l hl=>by cases hl),by simp[QL,Vy,Yr],by simp[QL,Vy,Yr],fun i=>by simp[QL]⟩
theorem zW{C:List Cm}(hC:(H C)<=100000):∀(l:List Ac) (k:Nat) (w:Wd),WI C k w->(∀a∈l,a.ZV<5/\Wg a.data∈C)->WI C (k+(H l)) (l.foldl act w):=by
 intro l
 induction l with
 | nil=>intro k w h _;exact h
 | cons a l ih=>
  intro k w h hl;have:=ih (k+1) (act w a) (Ze9 hC h a (hl a Hg).1 (hl a Hg).2) (fun x hx=>hl x (by simp[hx]));rw[a5,show k+((H l)+1)=k+1+(H l) by omega];exact this
theorem ZdG(xs:List (Raw × am))(hz:∀x∈Xh xs,x.err=0)(hl:(H xs)<=100000)(j:Nat)(hj:j<=(H xs)):WOk (TL (((Xh xs).take j).map Raw.ac)):=by
 obtain⟨C,hC⟩:∃C,C=(Xh xs).map fun x=>Wg x.data:=⟨_,rfl⟩
 have rl:(Xh xs).length=(H xs):=by unfold Xh;simp
 have tV:(H C)<=100000:=by rw[hC,cg,rl];exact hl
 have:=zW tV (((Xh xs).take j).map Raw.ac) 0 QL (Oo C) (fun a ha=>by
  obtain⟨x,hx,rfl⟩:=cr.1 ha;have hx:=List.mem_of_mem_take hx;obtain⟨_,h2,_,_,_⟩:=FD (hz x hx);refine⟨by unfold Raw.ac;simp only;omega,?_⟩;rw[hC];exact cr.2 ⟨x,hx,rfl⟩)
 refine this.ok tV ?_;rw[cg,a8];omega
theorem ZdH(T:bK)(h:Hp)(v:am)(xs:List (Raw × am))(hv:Ts Wq 5 h v xs)(hx:∀x∈xs,Pv LC h x.2 x.1.data)(tb:eG LC h)(Bd:(H xs)<=4611686018427387904):
  Zd ba T 19 #[v] h fun v' h'=>Zk h.size h h'/\DS h.size h' v' (Xh xs):=
 ZdC T h v xs hv hx tb Bd fun h1 h2 j hj=>ZdG xs h1 h2 j hj
def OX(n m:Int):Int:=(if n<0 then 0-(n+1) else n)%m
theorem X8(n:Int){m:Int}(h:0<m):0<=OX n m/\OX n m<m:=⟨Int.emod_nonneg _ nc,Int.emod_lt_of_pos _ h⟩
def i64(n:Int):Prop:=-9223372036854775808<=n/\n<9223372036854775808
theorem V1(T:bK)(h:Hp)(n m:Int)(hn:i64 n)(hm:1<=m)(tM:m<=1000000):
  Zd ba T 13 #[W O n,W O m] h fun v' h'=>v'=W O (OX n m)/\h'=h:=by
 unfold i64 at hn;refine Zd.XS [_,_] Tryz.func13 ?_;have hm0:¬m=0:=nc;by_cases q:n<0
 .have e:OX n m=(0-(n+1)).tmod m:=by unfold OX;rw[if_pos q,bA nc]
  rw[e];simp -implicitDefEqProofs only[go_sem,q,hm0]
 .have e:OX n m=n.tmod m:=by unfold OX;rw[if_neg q,bA nc]
  rw[e];simp -implicitDefEqProofs only[go_sem,q,hm0]
theorem RS(T:bK)(h:Hp)(n m:Int)(hn:i64 n)(hm:1<=m)(tM:m<=1000000):
  Zd ba T 7 #[W O n,W O m] h fun v' h'=>v'=W O (OX n m)/\h'=h:=by
 refine Zd.XS [_,_] Tryz.func7 ?_;simp -implicitDefEqProofs only[go_sem];refine (V1 T h n m hn hm tM).pure ?_;simp -implicitDefEqProofs only[go_sem]
def cL(k c s n v:Int):List am:=[W O k,W O c,W O s,W O n,W O v]
def cmW(k c s n v:Int):Cm:=⟨1+(OX k 5).tdiv 2,OX c 4,OX s 6,OX n 4,if 1+(OX k 5).tdiv 2=1 then OX v 1000 else 0⟩
theorem cM(T:bK)(h:Hp)(k c s n v:Int)(hk:i64 k)(hc:i64 c)(hs:i64 s)(hn:i64 n)(hv:i64 v):
  Zd ba T 5 #[a2 (cL k c s n v).toArray] h fun v' h'=>v'=a2 (cmW k c s n v).C.toArray/\Zk h.size h h':=by
 refine Zd.XS [_] Tryz.func5 ?_;unfold cL;simp -implicitDefEqProofs only[go_sem];refine VS.w (h.size+2) [16] (.q 0 (.q 1 (.q 2 (.q 3 (.q 4 (.q 5 (.q 6 (.q 7 (.q 8 (.q 9 (.q 10 (.q 11 (.q 12 (.q 13 (.q 14 (.s 15 (.w 16 .nil))))))))))))))))) mixed uf ?_;simp -implicitDefEqProofs only[go_sem];refine Ug (fun h=>V1 T h k 5 hk nc nc) ?_;simp -implicitDefEqProofs only[go_sem];refine Ug (fun h=>V1 T h c 4 hc nc nc) ?_;simp -implicitDefEqProofs only[go_sem];refine Ug (fun h=>V1 T h s 6 hs nc nc) ?_;simp -implicitDefEqProofs only[go_sem];refine Ug (fun h=>V1 T h n 4 hn nc nc) ?_;have r1:=X8 k (m:=5) nc;generalize Km:OX k 5=K at *;have r2:0<=K.tdiv 2/\K.tdiv 2<=2:=by rw[Int.tdiv_eq_ediv_of_nonneg r1.1];omega
 unfold cmW;rw[Km];generalize K.tdiv 2=J at *;by_cases q:1+J=1
 .simp -implicitDefEqProofs only[go_sem,q];refine⟨Zk.push Hg _,(V1 T _ v 1000 hv nc nc).pure ?_⟩;simp -implicitDefEqProofs only[go_sem,q];exact⟨rfl,(((Zk.refl _ _).add _).add _).add _⟩
 .simp -implicitDefEqProofs only[go_sem,q];exact⟨Zk.push Hg _,rfl,(((Zk.refl _ _).add _).add _).add _⟩
structure Gr where
 k:Int
 a:Int
 b:Int
 c:Int
 d:Int
def Gr.C(g:Gr):List am:=[W O g.k,W O g.a,W O g.b,W O g.c,W O g.d]
def Gr.ok(g:Gr):Prop:=(i64 g.k/\i64 g.a)/\i64 g.b/\i64 g.c/\i64 g.d
def RT(n c r u:Int)(x:Cm):List Nat:=if QK n c r u x.k x.c x.s x.n x.v=0 then Hb n c r u x.k x.c x.s x.n x.v else []
def cN:Raw:=⟨7,0,0,0,[]⟩
theorem DU{B:Nat}{h:Hp}{v:am}{l:List Nat}{o:Ow}(s:Yx B 5 h v l)(hf:∀b,B<=b->o b=Y):Pv o h v l:=⟨Im.WK s.Zq hf,s.byte⟩
def Js(l:List Raw):Wd:=TL (l.map Raw.ac)
theorem zX{h:Hp}{v:am}{l:List (Raw × am)}(s:Ts Wq 5 h v l):∃p c,v=U p (H l) c:=by
 obtain⟨p,c,h,_⟩:=DT s;exact⟨p,c,h⟩
theorem mI{α β:Type}{R:α->β->Prop}{l:List α}{k:List β}(h:AV R l k):(H l)=(H k):=by
 induction h with
 | nil=>rfl
 | cons _ _ ih=>rw[a5,a5,ih]
set_option maxHeartbeats 4000000 in
theorem ZhA(T:bK)(h:Hp)(v:am)(xs:List (Raw × am))(hv:Ts Wq 5 h v xs)(hx:∀x∈xs,Pv LC h x.2 x.1.data)(tb:eG LC h)(Bd:(H xs)<=4611686018427387904)(hz:SA (Xh xs)=0):
  Zd ba T 8 #[v] h fun v' h'=>(∃lv tv vs,v'=.tuple #[a2 (ju (Js (Xh xs)) lv tv).toArray,aw true]/\Vz (h.size+1) h' (ju (Js (Xh xs)) lv tv) (Js (Xh xs)) lv tv vs)/\Zk h.size h h':=by
 obtain⟨p,c,t9⟩:=zX hv;subst t9;refine Zd.XS [_] Tryz.func8 ?_;obtain⟨h0,Qn⟩:=ZQ (h.push (al ud.toArray 42):Hp);have e0:=Qn.symm;have b0:Zk h.size h h0:=by rw[Qn];exact (Zk.refl _ _).add _
 have z0:h0[h.size]? = X (al ud.toArray 42):=by rw[Qn];exact Zc
 have k0:Kp Wy LC h LC h0:=ZY (FE h) b0;unfold ud at e0;simp -implicitDefEqProofs only[go_sem,e0];refine (ZdH T h0 _ xs (hv.Yy b0) (fun x hxm=>(hx x hxm).Zf k0) (tb.Zf k0) Bd).use ?_;rintro v1 h1 ⟨b1,r1⟩;have B1:=b0.trans (b1.mono b0.size);unfold DS at r1;rw[if_pos hz]at r1;obtain⟨R,lv,tv,vs,rfl,rf⟩:=r1;have ra:=rf.at;obtain⟨pl,cl,hl,_⟩:=ra.Zmo.open (n:=1) (enc:=fun v=>[v]) (fun _=>rfl) (show (1:Nat)≠0 by decide);have vl:(H vs)=5:=mI ra.each;subst hl;rw[vl]at *;have rc:=ra.cells;subst rc;obtain⟨R,hR⟩:=ZQ (ju (Js (Xh xs)) (U pl 5 cl) tv);have hR':ju (TL (List.map Raw.ac (Xh xs))) (U pl 5 cl) tv=R:=by rw[hR];rfl
 rw[hR'];rw[hR']at ra rf;obtain⟨pt,ct,ht,_⟩:=ra.ZE.open (n:=5) (enc:=Fi) (fun _=>rfl) (show (5:Nat)≠0 by decide);have hRl:(H R)=13:=by rw[hR];rfl
 have ua:R.all YC=true:=by rw[hR,ht];rfl
 have hRp:Y9 [Value.int O 0,aw false,aw false,aw false,aw false,aw false,U Y 0 0,W O 0,W O 0,W O 0,W O 0,W O 0,U Y 0 0] 0 R=R:=Z3 (by rw[hRl];rfl);have ZdJ:(H R)<=13:=nc;have hR6:nth R 6=X (U pl 5 cl):=by rw[hR];rfl
 obtain⟨h2,VQ⟩:=ZQ (h1.push (al R.toArray 42):Hp);have e2:=VQ.symm;have b2:Zk h1.size h1 h2:=by rw[VQ];exact (Zk.refl _ _).add _
 have y2:h2[h1.size]? = X (al R.toArray 42):=by rw[VQ];exact Zc
 have z2:=b2.get (Za (b1.get (Za z0) z0)) (b1.get (Za z0) z0);have lz:=Za z2;have ly:=Za y2;have r2:rd h2 ⟨h1.size,0,Y⟩ 13=X R:=Zy y2 hRl;have r6:hc h2 ⟨h1.size,6,Y⟩=X (U pl 5 cl):=by rw[Zn y2];exact hR6
 have w2:wr h2 ⟨h.size,0,Y⟩ R=X (h2.setIfInBounds h.size (al R.toArray 42)):=by
  rw[Ye z2 0 _,if_pos ⟨by rw[hRl];decide,ua⟩];have:Y9 ud 0 R=R:=Z3 (by rw[hRl];rfl);rw[this]
 have z3:=ZS (o:=al R.toArray 42) z2;have r3:=Zy z3 hRl;simp -implicitDefEqProofs only[go_sem,hRl,ua,hRp,ZdJ,e2];refine VS.z (h.size) [0,5,9] (.p 1 (.p 2 (.p 3 (.p 4 (.or 0 (.or 5 (.p 6 (.p 7 (.p 8 (.w 9 (.p 10 .nil))))) (.s 9 (.w 5 (.p 6 (.p 7 (.p 8 (.p 10 .nil))))))) (.s 5 (.p 6 (.p 7 (.p 8 (.w 0 (.w 9 (.p 10 .nil)))))))))))) mixed uf ?_;have s0:h0.size=h.size+1:=by rw[Qn];simp
 have Y4:¬h1.size=h.size:=by have:=b1.size;omega
 have e5:decide (((5:Nat):Int)=5)=true:=rfl;have et:R.take 13=R:=aI nc;have bs:Zk h.size h (h2.setIfInBounds h.size (al R.toArray 42)):=(B1.trans (b2.mono B1.size)).Zt (aU _) _;have rf2:Vz (h.size+1) (h2.setIfInBounds h.size (al R.toArray 42)) R (TL (List.map Raw.ac (Xh xs))) (U pl 5 cl) tv vs:=by
  rw[s0]at rf;exact (rf.Yy b2).set nc _
 have key:(∃lv tv vs,Value.tuple #[a2 R.toArray,aw true]=.tuple #[a2 (ju (Js (Xh xs)) lv tv).toArray,aw true]/\Vz (h.size+1) (h2.setIfInBounds h.size (al R.toArray 42)) (ju (Js (Xh xs)) lv tv) (Js (Xh xs)) lv tv vs)/\Zk h.size h (h2.setIfInBounds h.size (al R.toArray 42)):=
  ⟨⟨_,tv,vs,by rw[<-hR],by rw[<-hR];exact rf2⟩,bs⟩
 simp -implicitDefEqProofs only[go_sem,r2,r6,w2,hRl,ua,ZdJ,ly,lz,Y4,hR6,e5,et];exact⟨⟨key,key⟩,key⟩
theorem Qu(a:Yw):¬ZL a a:=by unfold ZL;omega
theorem X4{a c:Yw}(h1:¬ZL b a)(h2:¬ZL c b):¬ZL c a:=by unfold ZL at *;omega
theorem LF{a:Yw}(h:ZL a b):¬ZL b a:=by unfold ZL at *;omega
theorem RU{a:Yw}(h1:¬ZL a b)(h2:¬ZL b a):a=b:=by
 obtain⟨r,n⟩:=a;obtain⟨s,m⟩:=b;unfold ZL at h1 h2;simp only at h1 h2;rw[Yw.mk.injEq];omega
def ZdK(b:Yw):Nat:=(b.r*5+b.n).toNat
theorem mJ{a:Yw}(ha:ZF a)(hb:ZF b)(h:ZL a b):ZdK a<ZdK b:=by
 unfold ZF at ha hb;unfold ZL at h;unfold ZdK;omega
theorem Oq{α:Type}[DecidableEq α]:∀{l C:List α},l.Nodup->(∀x∈l,x∈C)->(H l)<=(H C):=by
 intro l
 induction l with
 | nil=>intro C _ _;simp
 | cons x l ih=>
  intro C hn h;rw[cy]at hn;have h1:=ih (C:=C.erase x) hn.2 (fun y hy=>(ch (fun e=>hn.1 (by rw[<-e];exact hy))).2 (h y (by simp[hy])));have h2:x∈C:=h x Hg;have h3:=bf h2;have h4:0<(H C):=bk h2;simp only[a5];omega
def Maj(Q:List Nat):Prop:=Q.Nodup/\(∀i∈Q,i<5)/\3<=(H Q)
theorem Maj.meet{Q R:List Nat}(q:Maj Q)(r:Maj R):∃i,i∈Q/\i∈R:=by
 refine a0 fun h=>?_;have hd:(Q++R).Nodup:=by
  rw[cq];exact⟨q.1,r.1,fun a ha b hb e=>h ⟨a,ha,by rw[e];exact hb⟩⟩
 have:=Oq (C:=cR 5) hd (fun x hx=>by
  rw[bl];rcases a6.1 hx with hx|hx
  .exact q.2.1 x hx
  .exact r.2.1 x hx)
 have h1:=q.2.2;have h2:=r.2.2;simp only[aa,List.length_range]at this;omega
structure Gh where
 V:Nat->Yw->Int->Cm->Prop
 P:Yw->Int->Cm->Prop
def IM(g:Gh)(M:Nat->Yw)(b:Yw)(s:Int):Prop:=∃Q,Maj Q/\(∀i∈Q,¬ZL (M i) b)/\∀i∈Q,∀b' y,ZL b' b->¬g.V i b' s y
def Safe(g:Gh)(M:Nat->Yw)(b:Yw)(s:Int)(x:Cm):Prop:=
 ∃Q,Maj Q/\(∀i∈Q,¬ZL (M i) b)/\((∀i∈Q,∀b' y,ZL b' b->¬g.V i b' s y)\/∃b0 j,ZL b0 b/\g.V j b0 s x/\∀i∈Q,∀b' y,ZL b' b->g.V i b' s y->¬ZL b0 b')
theorem IM.safe{g:Gh}{M:Nat->Yw}{s:Int}(h:IM g M b s)(x:Cm):Safe g M b s x:=by
 obtain⟨Q,q,h1,h2⟩:=h;exact⟨Q,q,h1,.inl h2⟩
structure GI(S:Cm->Prop)(g:Gh)(M:Nat->Yw):Prop where
 vp:∀i b s x,g.V i b s x->g.P b s x
 one:∀b s x y,g.P b s x->g.P b s y->x=y
 Z4:∀i b s x,g.V i b s x->¬ZL (M i) b
 may:∀b s x,g.P b s x->ZF b
 safe:∀b s x,g.P b s x->Safe g M b s x
 Zq:∀b s x,g.P b s x->¬ZL (M b.n.toNat) b
 cmd:∀b s x,g.P b s x->x=IB\/S x
def Jk(g:Gh)(s:Int)(x:Cm):Prop:=∃Q b,Maj Q/\∀i∈Q,g.V i b s x
theorem VT{S:Cm->Prop}{g:Gh}{M:Nat->Yw}(G:GI S g M){Q:List Nat}{s:Int}{x:Cm}(hQ:Maj Q)(hv:∀i∈Q,g.V i b s x):∀n b' y,ZdK b'<=n->g.P b' s y->ZL b b'->y=x:=by
 have hb:g.P b s x:=by
  obtain⟨i,h1,_⟩:=hQ.meet hQ;exact G.vp _ _ _ _ (hv i h1)
 intro n
 induction n with
 | zero=>
  intro b' y h1 h2 h3;have:=mJ (G.may _ _ _ hb) (G.may _ _ _ h2) h3;omega
 | succ n ih=>
  intro b' y h1 h2 h3;obtain⟨R,hR,_,h5⟩:=G.safe _ _ _ h2;obtain⟨i,i1,i2⟩:=hQ.meet hR;rcases h5 with h5|⟨b0,j,h5,h6,h7⟩
  .exact (h5 i i2 b x h3 (hv i i1)).elim
  .have h8:=h7 i i2 b x h3 (hv i i1);have h9:=G.vp _ _ _ _ h6;by_cases e:ZL b b0
   .have:=mJ (G.may _ _ _ h9) (G.may _ _ _ h2) h5;exact ih b0 y nc h9 e
   .have:=RU e h8;subst this;exact G.one _ _ _ _ h9 hb
theorem Jk.one{S:Cm->Prop}{g:Gh}{M:Nat->Yw}(G:GI S g M){s:Int}{x y:Cm}(hx:Jk g s x)(hy:Jk g s y):x=y:=by
 obtain⟨Q,b,q,h⟩:=hx;obtain⟨R,c,r,k⟩:=hy;have hb:g.P b s x:=by
  obtain⟨i,h1,_⟩:=q.meet q;exact G.vp _ _ _ _ (h i h1)
 have hc:g.P c s y:=by
  obtain⟨i,h1,_⟩:=r.meet r;exact G.vp _ _ _ _ (k i h1)
 by_cases e:ZL b c
 .exact (VT G q h _ c y (aU _) hc e).symm
 .by_cases f:ZL c b
  .exact VT G r k _ b x (aU _) hb f
  .have:=RU e f;subst this;exact G.one _ _ _ _ hb hc
theorem Jk.ZW{S:Cm->Prop}{g:Gh}{M:Nat->Yw}(G:GI S g M){s:Int}{x:Cm}(hx:Jk g s x):∃b,g.P b s x:=by
 obtain⟨Q,b,q,h⟩:=hx;obtain⟨i,h1,_⟩:=q.meet q;exact⟨b,G.vp _ _ _ _ (h i h1)⟩
structure Ext(i:Nat)(g:Gh)(M:Nat->Yw)(g':Gh)(M':Nat->Yw):Prop where
 v:∀j b s x,g.V j b s x->g'.V j b s x
 p:∀b s x,g.P b s x->g'.P b s x
 m:∀j,¬ZL (M' j) (M j)
 fz:∀j b s x,g'.V j b s x->g.V j b s x\/¬ZL b (M j)
 oth:∀j,j≠i->M' j=M j/\∀b s x,g'.V j b s x->g.V j b s x
 Zq:∀b s x,g'.P b s x->g.P b s x\/b.n=i
theorem Ext.refl(i:Nat)(g:Gh)(M:Nat->Yw):Ext i g M g M:=⟨fun _ _ _ _ h=>h,fun _ _ _ h=>h,fun _=>Qu _,fun _ _ _ _ h=>.inl h,fun _ _=>⟨rfl,fun _ _ _ h=>h⟩,fun _ _ _ h=>.inl h⟩
structure PF(g:Gh)(M:Nat->Yw)(i:Nat)(b:Yw)(vs:List Vt):Prop where
 lt:i<5
 Z4:¬ZL (M i) b
 has:∀v∈vs,g.V i v.b v.Zu v.cm/\¬ZL b v.b
 all:∀b' s x,ZL b' b->g.V i b' s x->∃v∈vs,v.Zu=s/\¬ZL v.b b'
section
variable {i:Nat} {g g':Gh} {M M':Nat->Yw}
theorem Ext.frozen(E:Ext i g M g' M'){j:Nat}{b':Yw}{s:Int}{x:Cm}(h:¬ZL (M j) b)(hb:ZL b' b)(hv:g'.V j b' s x):g.V j b' s x:=by
 rcases E.fz _ _ _ _ hv with q|q
 .exact q
 .exact (X4 h q hb).elim
theorem PF.ext(E:Ext i g M g' M'){j:Nat}{vs:List Vt}(h:PF g M j b vs):PF g' M' j b vs:=
 ⟨h.lt,X4 h.Z4 (E.m j),fun v hv=>⟨E.v _ _ _ _ (h.has v hv).1,(h.has v hv).2⟩,fun b' s x hb hv=>h.all b' s x hb (E.frozen h.Z4 hb hv)⟩
theorem Jk.ext(E:Ext i g M g' M'){s:Int}{x:Cm}(h:Jk g s x):Jk g' s x:=by
 obtain⟨Q,b,q,h⟩:=h;exact⟨Q,b,q,fun i hi=>E.v _ _ _ _ (h i hi)⟩
theorem IM.ext(E:Ext i g M g' M'){s:Int}(h:IM g M b s):IM g' M' b s:=by
 obtain⟨Q,q,h1,h2⟩:=h;exact⟨Q,q,fun i hi=>X4 (h1 i hi) (E.m i),fun i hi b' y hb hv=>h2 i hi b' y hb (E.frozen (h1 i hi) hb hv)⟩
theorem Safe.ext(E:Ext i g M g' M'){s:Int}{x:Cm}(h:Safe g M b s x):Safe g' M' b s x:=by
 obtain⟨Q,q,h1,h2⟩:=h;refine⟨Q,q,fun i hi=>X4 (h1 i hi) (E.m i),?_⟩;rcases h2 with h2|⟨b0,j,h3,h4,h5⟩
 .exact .inl fun i hi b' y hb hv=>h2 i hi b' y hb (E.frozen (h1 i hi) hb hv)
 .exact .inr ⟨b0,j,h3,E.v _ _ _ _ h4,fun i hi b' y hb hv=>h5 i hi b' y hb (E.frozen (h1 i hi) hb hv)⟩
end
def Nf(M:Nat->Yw)(i:Nat)(b:Yw):Nat->Yw:=fun j=>if j=i then b else M j
theorem raised{S:Cm->Prop}{g:Gh}{M:Nat->Yw}(G:GI S g M)(hb:¬ZL b (M i)):Ext i g M g (Nf M i b)/\GI S g (Nf M i b):=by
 have hm:∀j,¬ZL (Nf M i b j) (M j):=fun j=>by
  unfold Nf;split
  .rename_i e;rw[e];exact hb
  .exact Qu _
 have E:Ext i g M g (Nf M i b):=⟨fun _ _ _ _ h=>h,fun _ _ _ h=>h,hm,fun _ _ _ _ h=>.inl h,fun j hj=>⟨by unfold Nf;rw[if_neg hj],fun _ _ _ h=>h⟩,fun _ _ _ h=>.inl h⟩
 exact⟨E,G.vp,G.one,fun j c s x h=>X4 (G.Z4 j c s x h) (hm j),G.may,fun c s x h=>(G.safe c s x h).ext E,fun c s x h=>X4 (G.Zq c s x h) (hm _),G.cmd⟩
def jz(g:Gh)(i:Nat)(b:Yw)(s:Int)(x:Cm):Gh:=⟨fun j c t y=>g.V j c t y\/(j=i/\c=b/\t=s/\y=x),g.P⟩
theorem Zmu{S:Cm->Prop}{g:Gh}{M:Nat->Yw}(G:GI S g M){s:Int}{x:Cm}(hp:g.P b s x)(hb:¬ZL b (M i)):Ext i g M (jz g i b s x) (Nf M i b)/\GI S (jz g i b s x) (Nf M i b):=by
 have hm:∀j,¬ZL (Nf M i b j) (M j):=fun j=>by
  unfold Nf;split
  .rename_i e;rw[e];exact hb
  .exact Qu _
 have E:Ext i g M (jz g i b s x) (Nf M i b):=by
  refine⟨fun _ _ _ _ h=>.inl h,fun _ _ _ h=>h,hm,fun j c t y h=>?_,fun j hj=>⟨by unfold Nf;rw[if_neg hj],fun c t y h=>?_⟩,fun _ _ _ h=>.inl h⟩
  .rcases h with h|⟨rfl,rfl,rfl,rfl⟩
   .exact .inl h
   .exact .inr hb
  .rcases h with h|⟨rfl,_⟩
   .exact h
   .exact (hj rfl).elim
 refine⟨E,fun j c t y h=>?_,G.one,fun j c t y h=>?_,G.may,fun c t y h=>(G.safe c t y h).ext E,fun c t y h=>X4 (G.Zq c t y h) (hm _),G.cmd⟩
 .rcases h with h|⟨rfl,rfl,rfl,rfl⟩
  .exact G.vp _ _ _ _ h
  .exact hp
 .rcases h with h|⟨rfl,rfl,rfl,rfl⟩
  .exact X4 (G.Z4 _ _ _ _ h) (hm j)
  .unfold Nf;rw[if_pos rfl];exact Qu _
def mK(g:Gh)(b:Yw)(l:List (Int × Cm)):Gh:=⟨g.V,fun c t y=>g.P c t y\/(c=b/\Yh l t=X y)⟩
theorem cO{S:Cm->Prop}{g:Gh}{M:Nat->Yw}(G:GI S g M){l:List (Int × Cm)}(hn:b.n=i)(hm:ZF b)(ht:¬ZL (M i) b)(h1:∀t y,g.P b t y->Yh l t=X y)(h2:∀t y,Yh l t=X y->Safe g M b t y)(h3:∀t y,Yh l t=X y->y=IB\/S y):
  Ext i g M (mK g b l) M/\GI S (mK g b l) M:=by
 have E:Ext i g M (mK g b l) M:=by
  refine⟨fun _ _ _ _ h=>h,fun _ _ _ h=>.inl h,fun _=>Qu _,fun _ _ _ _ h=>.inl h,fun j hj=>⟨rfl,fun _ _ _ h=>h⟩,fun c t y h=>?_⟩;rcases h with h|⟨rfl,_⟩
  .exact .inl h
  .exact .inr hn
 refine⟨E,fun j c t y h=>.inl (G.vp _ _ _ _ h),fun c t y z hy hz=>?_,G.Z4,fun c t y h=>?_,fun c t y h=>?_,fun c t y h=>?_,fun c t y h=>?_⟩
 .rcases hy with hy|⟨rfl,hy⟩
  .rcases hz with hz|⟨rfl,hz⟩
   .exact G.one _ _ _ _ hy hz
   .have:=h1 _ _ hy;rw[hz]at this;exact (Option.some.inj this).symm
  .rcases hz with hz|⟨_,hz⟩
   .have:=h1 _ _ hz;rw[hy]at this;exact Option.some.inj this
   .rw[hy]at hz;exact Option.some.inj hz
 .rcases h with h|⟨rfl,_⟩
  .exact G.may _ _ _ h
  .exact hm
 .rcases h with h|⟨rfl,h⟩
  .exact (G.safe _ _ _ h).ext E
  .exact (h2 _ _ h).ext E
 .rcases h with h|⟨rfl,h⟩
  .exact G.Zq _ _ _ h
  .rw[hn];exact ht
 .rcases h with h|⟨rfl,h⟩
  .exact G.cmd _ _ _ h
  .exact h3 _ _ h
theorem Rl{n:Nat}(h:n<4294967296):n/16777216%256*16777216+n/65536%256*65536+n/256%256*256+n%256=n:=nc
theorem cQ(h:YG a.p a.l b=0):JA a (JL b)=X ⟨b,a.l⟩:=by
 have hb:=OU h;obtain⟨r,m⟩:=b;unfold ZF at hb;simp only at hb;have e1:XB (JL ⟨r,m⟩) 1=r.toNat:=by
  have:XB (JL ⟨r,m⟩) 1=r.toNat/16777216%256*16777216+r.toNat/65536%256*65536+r.toNat/256%256*256+r.toNat%256:=by simp[XB,JL,ZC,Xl]
  rw[this];exact Rl nc
 have e2:XB (JL ⟨r,m⟩) 5=m.toNat:=by
  have:XB (JL ⟨r,m⟩) 5=m.toNat/16777216%256*16777216+m.toNat/65536%256*65536+m.toNat/256%256*256+m.toNat%256:=by simp[XB,JL,ZC,Xl]
  rw[this];exact Rl nc
 have e3:(⟨((XB (JL ⟨r,m⟩) 1:Nat):Int),((XB (JL ⟨r,m⟩) 5:Nat):Int)⟩:Yw)=⟨r,m⟩:=by
  rw[e1,e2,Yw.mk.injEq];omega
 unfold JA;rw[if_pos ⟨rfl,rfl⟩,e3,if_pos h]
theorem zY{v:Vt}(h:Xj a.p a.l v=0):JA a (Up v)=X ⟨v.b,Jz a.l v⟩:=by
 have hv:=KA h;obtain⟨s,⟨r,m⟩,k,c,q,nm,x⟩:=v;obtain⟨h1,h2,h3⟩:=hv;unfold ZF at h2;simp only at h1 h2 h3;obtain⟨k',c',q',n',x',rfl,rfl,rfl,rfl,rfl,b1,b2,b3,b4,b5⟩:=Xb h3;have f:∀(i:Nat) (n:Nat),XB (Up ⟨s,⟨r,m⟩,k',c',q',n',x'⟩) i=n/16777216%256*16777216+n/65536%256*65536+n/256%256*256+n%256->n<4294967296->XB (Up ⟨s,⟨r,m⟩,k',c',q',n',x'⟩) i=n:=fun i n e hn=>by rw[e];exact Rl hn
 have e1:=f 1 s.toNat (by simp[XB,Up,ZC,Xl]) (by omega);have e2:=f 5 r.toNat (by simp[XB,Up,ZC,Xl]) (by omega);have e3:=f 9 m.toNat (by simp[XB,Up,ZC,Xl]) (by omega);have e4:=f 13 k' (by simp[XB,Up,ZC,Xl]) (by omega);have e5:=f 17 c' (by simp[XB,Up,ZC,Xl]) (by omega);have e6:=f 21 q' (by simp[XB,Up,ZC,Xl]) (by omega);have e7:=f 25 n' (by simp[XB,Up,ZC,Xl]) (by omega);have e8:=f 29 x' (by simp[XB,Up,ZC,Xl]) (by omega);have hl:(Up ⟨s,⟨r,m⟩,k',c',q',n',x'⟩).length=33:=rfl;obtain⟨L,hL⟩:=ZQ (Up ⟨s,⟨r,m⟩,k',c',q',n',x'⟩);have h0:L.getD 0 0=2:=by rw[hL];rfl
 rw[<-hL]at e1 e2 e3 e4 e5 e6 e7 e8 hl ⊢;have d4:Qr (L.drop 13)=0:=by
  unfold Qr;rw[if_pos (by rw[cx];omega),Q0,Q0,Q0,Q0,Q0,e4,e5,e6,e7,e8];exact h3
 have d5:bD (L.drop 13) ⟨((XB L 1:Nat):Int),⟨((XB L 5:Nat):Int),((XB L 9:Nat):Int)⟩,0,0,0,0,0⟩=⟨s,⟨r,m⟩,k',c',q',n',x'⟩:=by
  unfold bD
  dsimp only
  rw[Q0,Q0,Q0,Q0,Q0,e1,e2,e3,e4,e5,e6,e7,e8,Vt.mk.injEq,Yw.mk.injEq];refine⟨by omega,⟨by omega,by omega⟩,rfl,rfl,rfl,rfl,rfl⟩
 have d6:(⟨((XB L 5:Nat):Int),((XB L 9:Nat):Int)⟩:Yw)=⟨r,m⟩:=by rw[e2,e3,Yw.mk.injEq];omega
 unfold JA;rw[if_neg (by omega),if_pos ⟨hl,h0⟩,if_neg (by rw[d4];decide),d5,d6,if_pos h]
theorem DW{d:List Nat}{a':UC}{k':Nat}(h:Y3 d a k=X (a',k')):k<k'/\k'<=(H d):=by
 unfold Y3 at h;split at h
 .rename_i q;rw[bd]at h;obtain⟨x,_,e⟩:=h;simp only[Prod.mk.injEq]at e;omega
 .cases h
theorem cU{d e:List Nat}(h:k<(H d)):(d++e).getD k 0=d.getD k 0:=by
 rw[a9,a9,List.getElem?_append_left h]
theorem HL{d e:List Nat}{n:Nat}(h:k+n<=(H d)):((d++e).drop k).take n=(d.drop k).take n:=by
 rw[bw (by omega),bc (by rw[cx];omega)]
theorem zZ{d:List Nat}{a':UC}{k':Nat}(h:Y3 d a k=X (a',k'))(e:List Nat):Y3 (d++e) a k=X (a',k'):=by
 unfold Y3 at h ⊢;split at h
 .rename_i q;have q1:Vh (d++e) k=Vh d k:=by unfold Vh;rw[cU q.1]
  have h1:1<=Vh d k:=by unfold Vh;omega
  have q2:(TH (((d++e).drop k).take (Vh d k))).take 4=((d++e).drop (k+Vh d k)).take 4:=by
   rw[HL (by omega),HL (by omega)];exact q.2.2
  rw[q1,if_pos ⟨by rw[aa];omega,by rw[aa];omega,q2⟩,HL (by omega),h]
 .cases h
theorem Zaa{d:List Nat}{a':UC}{k':Nat}(h:Y3 d a k=X (a',k')){j:Nat}(hj:k'<=j):Y3 (d.take j) a k=X (a',k'):=by
 unfold Y3 at h ⊢;split at h
 .rename_i q;rw[bd]at h;obtain⟨x,hx,e⟩:=h;simp only[Prod.mk.injEq]at e;obtain⟨e1,e2⟩:=e;have q0:d=d.take j++d.drop j:=(List.take_append_drop j d).symm;have ql:(d.take j).length=min j (H d):=a8;have q1:Vh d k=Vh (d.take j) k:=by
   unfold Vh
   conv=>lhs;rw[q0]
   rw[cU nc]
  have hN:1<=Vh d k:=by unfold Vh;omega
  have m1:∀a n,a+n<=j->a+n<=(H d)->(d.drop a).take n=((d.take j).drop a).take n:=fun a n h1 h2=>by
   conv=>lhs;rw[q0]
   exact HL nc
  have q2:(TH (((d.take j).drop k).take (Vh d k))).take 4=((d.take j).drop (k+Vh d k)).take 4:=by
   rw[<-m1 _ _ nc nc,<-m1 _ _ nc nc];exact q.2.2
  rw[<-q1,if_pos ⟨nc,nc,q2⟩,<-m1 _ _ nc nc,hx,<-e1,<-e2,cP]
 .cases h
theorem Rec.fits{l:List Nat}{r:UC}{j:Nat}(h:Rec l a k r j):k<=(H l)->k<=j/\j<=(H l):=by
 induction h with
 | stop e=>intro h;omega
 | go e _ ih=>
  intro h;have h1:=DW e;have h2:=ih h1.2;omega
theorem Rec.app{l e:List Nat}{r r':UC}{j j':Nat}(h:Rec l a k r j)(h2:Rec (l++e) r j r' j'):Rec (l++e) a k r' j':=by
 induction h with
 | stop _=>exact h2
 | go s _ ih=>exact .go (zZ s e) (ih h2)
theorem step_end(l:List Nat)(a:UC):Y3 l a (H l)=Y:=by
 unfold Y3;rw[if_neg nc]
theorem Rec.cut{l:List Nat}{r:UC}{j:Nat}(h:Rec l a k r j):k<=(H l)->Rec (l.take j) a k r j:=by
 induction h with
 | stop e=>
  intro h;rename_i k;have:=step_end (l.take k) ‹UC›;rw[a8,Nat.min_eq_left h]at this;exact .stop this
 | go s h2 ih=>
  intro h;have h1:=DW s;have h3:=h2.fits h1.2;exact .go (Zaa s h3.1) (ih h1.2)
def Whole(d:List Nat)(a:UC):Prop:=Rec d JE 0 a (H d)
theorem Whole.nil:Whole [] JE:=.stop (step_end [] JE)
theorem Whole.all{d:List Nat}(h:Whole d a):Tu d=(a,(H d)):=OT h
theorem Zab(d:List Nat){a':UC}{f:List Nat}(hb:JA a f=X a'):Y3 (d++YS f) a (H d)=X (a',(d++YS f).length):=by
 have hl:=Vg f;have e0:YS f=(H f) :: (f++(TH (Lp f)).take 4):=rfl;have hN:Vh (d++YS f) (H d)=1+(H f):=by
  unfold Vh;rw[a9,bB (aU _),Nat.sub_self,e0];rfl
 have m1:((d++YS f).drop (H d)).take (1+(H f))=Lp f:=by
  rw[co];unfold YS;rw[bc (by rw[UT];omega),aI (by rw[UT];omega)]
 have m2:((d++YS f).drop ((H d)+(1+(H f)))).take 4=(TH (Lp f)).take 4:=by
  rw[<-cS,co];unfold YS;rw[bw (by rw[UT];omega),List.drop_of_length_le (by rw[UT];omega),List.nil_append,List.take_take];rfl
 have m3:((d++YS f).drop ((H d)+1)).take (1+(H f)-1)=f:=by
  rw[<-cS,co,e0,List.drop_succ_cons,List.drop_zero,Nat.add_sub_cancel_left,bc (aU _),aI (aU _)]
 unfold Y3;rw[hN,if_pos ⟨by rw[aa];omega,by rw[aa];omega,by rw[m1,m2]⟩,m3,hb];simp only[cP,aa,hl]
 congr 2
 omega
theorem rF(d f:List Nat)(a:UC){m:Nat}(hm:m<(YS f).length):Y3 (d++(YS f).take m) a (H d)=Y:=by
 have hl:=Vg f;have e0:YS f=(H f) :: (f++(TH (Lp f)).take 4):=rfl;have ht:((YS f).take m).length=m:=aad;unfold Y3;rw[if_neg];rintro⟨h1,h2,_⟩;rw[aa,ht]at h1 h2;have hN:Vh (d++(YS f).take m) (H d)=1+(H f):=by
  unfold Vh;rw[a9,bB (aU _),Nat.sub_self,List.getElem?_take_of_lt nc,e0];rfl
 omega
theorem Whole.add{d f:List Nat}{a':UC}(h:Whole d a)(hb:JA a f=X a'):Whole (d++YS f) a':=
 Rec.app h (.go (Zab d hb) (.stop (step_end _ _)))
theorem Whole.Zvy{d f:List Nat}(h:Whole d a){m:Nat}(hm:m<(YS f).length):Rec (d++(YS f).take m) JE 0 a (H d):=
 Rec.app h (.stop (rF d f a hm))
def WM:LV->UC
 | .VB a _ _ _=>a
 | .TC a _ _=>a
 | .Zq a _ _=>a
structure TR(n:Nd):Prop where
 idle:n.up=true->n.Zs=Y->Whole n.data n.Zq/\n.YZ=(H n.data)
 busy:n.up=true->∀p,n.Zs=X p->∃d f,n.data=d++YS f/\n.YZ=(H d)/\Whole d n.Zq/\JA n.Zq f=X (WM p)
 down:n.up=false->n.Zs=Y/\n.YZ=(H n.data)/\∃a j,Rec n.data JE 0 a j
 len:(H n.data)<=100000
def Wh(n:Nd):UC:=if n.up=true then n.Zq else (Tu n.data).1
theorem Zac(i:Nat):TR (Yr i true [] 0 JE):=by
 refine⟨fun _ _=>⟨Whole.nil,rfl⟩,fun _ p hp=>(by cases hp),fun h=>(by cases h),by simp[Yr]⟩
theorem jA(h:TR n)(hu:n.up=true){Zf:Int}(hk:0<=Zf):
  TR (XF i n Zf)/\(XF i n Zf).up=false/\(Wh (XF i n Zf)=n.Zq\/∃p,n.Zs=X p/\Wh (XF i n Zf)=WM p):=by
 have key:∀(d:List Nat) (z:Int) (a:UC) (j:Nat),(H d)<=100000->z=(H d)->Rec d JE 0 a j->TR (Yr i false d z JE)/\(Yr i false d z JE).up=false/\Wh (Yr i false d z JE)=a:=fun d z a j h1 h2 h3=>by
  refine⟨⟨fun e=>(by cases e),fun e=>(by cases e),fun _=>⟨rfl,h2,a,j,h3⟩,h1⟩,rfl,?_⟩;unfold Wh;rw[if_neg (by simp[Yr])];show (Tu d).1=a;rw[OT h3]
 cases hp:n.Zs with
 | none=>
  obtain⟨h1,h2⟩:=h.idle hu hp;have hl:=h.len;have ec:(UD n.data n.YZ Zf).toNat=(H n.data):=by unfold UD;rw[h2];split<;>omega
  have ez:UD n.data n.YZ Zf=(H n.data):=by unfold UD;rw[h2];split<;>omega
  have e:XF i n Zf=Yr i false n.data (UD n.data n.YZ Zf) JE:=by
   unfold XF;rw[if_pos hu,if_pos ⟨⟨hl,nc,nc⟩,hk⟩,ec,aI (aU _)]
  rw[e];obtain⟨k1,k2,k3⟩:=key n.data _ n.Zq _ hl ez h1;exact⟨k1,k2,.inl k3⟩
 | some p=>
  obtain⟨d,f,h1,h2,h3,h4⟩:=h.busy hu p hp;have hl:=h.len;have tT:(H n.data)=(H d)+(YS f).length:=by rw[h1,aa]
  have c1:((H d):Int)<=UD n.data n.YZ Zf/\UD n.data n.YZ Zf<=(H n.data):=by unfold UD;rw[h2];split<;>omega
  obtain⟨C,hC⟩:∃C:Nat,UD n.data n.YZ Zf=C:=⟨(UD n.data n.YZ Zf).toNat,nc⟩
  have e:XF i n Zf=Yr i false (n.data.take C) C JE:=by
   unfold XF;rw[if_pos hu,if_pos ⟨⟨hl,nc,nc⟩,hk⟩,hC];rfl
  have htl:(n.data.take C).length=C:=aad;rw[e];by_cases hw:C=(H n.data)
  .have et:n.data.take C=n.data:=aI nc;rw[et];have:=h3.add h4;rw[<-h1]at this;obtain⟨k1,k2,k3⟩:=key n.data C (WM p) _ hl nc this;exact⟨k1,k2,.inr ⟨p,rfl,k3⟩⟩
  .have et:n.data.take C=d++(YS f).take (C-(H d)):=by
    rw[h1,List.take_append,aI nc]
   have:=h3.Zvy (f:=f) (m:=C-(H d)) nc;rw[<-et]at this;obtain⟨k1,k2,k3⟩:=key (n.data.take C) C n.Zq _ nc nc this;exact⟨k1,k2,.inl k3⟩
theorem jB(h:TR n)(hu:n.up=false):
  TR (started i n)/\(started i n).up=true/\(started i n).Zq=Wh n:=by
 obtain⟨h1,h2,a,j,h3⟩:=h.down hu;have hl:=h.len;have hj:=h3.fits (bR _);have ea:=OT h3;have Zvz:=h3.cut (bR _);have JZ:(n.data.take j).length=j:=aad;have ok:YW n.data n.YZ:=⟨hl,nc,nc⟩
 have eD:Fg n.data n.YZ=n.data.take j:=by unfold Fg;rw[if_pos ok,ea]
 have eN:iU n.data n.YZ=j:=by
  unfold iU;rw[if_pos ok,ea];simp only;split<;>omega
 have ok2:YW (n.data.take j) (j:Int):=⟨nc,nc,nc⟩
 have hw:Whole (n.data.take j) a:=by unfold Whole;rw[JZ];exact Zvz
 have eo:(if YW (Fg n.data n.YZ) (iU n.data n.YZ) then (Tu (Fg n.data n.YZ)).1 else JE)=a:=by
  rw[eD,eN,if_pos ok2,hw.all]
 have e:started i n=Yr i true (n.data.take j) j a:=by
  unfold started;rw[if_neg (by rw[hu];decide),eo,eD,eN]
 rw[e];refine⟨⟨fun _ _=>⟨hw,by show (j:Int)=((n.data.take j).length:Nat);omega⟩,fun _ p hp=>(by cases hp),fun h=>(by cases h),by show (n.data.take j).length<=100000;omega⟩,rfl,?_⟩;show a=Wh n;unfold Wh;rw[if_neg (by rw[hu];decide),ea]
end Go.Proofs.YthlfaofofaphfaaGreatDoor
