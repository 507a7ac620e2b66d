/- Part Txb. -/
import Derived.Test.YthlfaofofaphfaaGreatDoorMdh
import Derived.Test.YthlfaofofaphfaaGreatDoorLchks
import Derived.Test.YthlfaofofaphfaaGreatDoorPak
open Go.Value renaming slice→U,int→W,bool→ag,pointer→aD,agg→aN
open Go.IntKind renaming i64→O
open Go.Obj renaming cells→ab
open Go.Proofs.Tryz renaming prog→a5
open List renaming length→H,length_append→aa,take_of_length_le→al,length_cons→aO,mem_append→a0,length_take→a1,getD_eq_getElem?_getD→a2,take_append_of_le_length→a6,mem_filter→a9,length_erase_of_mem→ba,foldl_cons→bc,length_pos_of_mem→be,mem_range→bf,length_singleton→bh,drop_append_of_le_length→bl,filter_sublist→bp,getElem?_append_right→bw,mem_cons→bB,getElem?_eq_getElem→bG,mem_of_mem_eraseIdx→bR,mem_flatMap→bS,getElem_mem→b6,length_map→b8,mem_erase_of_ne→ca,drop_left→cg,pairwise_cons→ch,nodup_append→co,mem_map→cp,foldl_append→cq,length_drop→cr,nodup_cons→cu,range_succ→cy,map_append→cz,range→cB,drop_drop→cC
open Nat renaming le_refl→am,lt_of_lt_of_le→bd,le_trans→bg,mul_le_mul_right→bk,le_succ→bx,zero_le→bA
open Int renaming tmod_eq_emod_of_nonneg→br
open Option renaming map_eq_some_iff→a8,map_some→cA,some→X,none→Y
open Array renaming getElem?_setIfInBounds→bo,size_push→cx
open Classical renaming byContradiction→aw
open Go renaming Value→ae,World→bz
namespace Go.Proofs.YthlfaofofaphfaaGreatDoor
open Go Go.V
set_option linter.unusedSimpArgs false
set_option linter.unusedVariables false
variable{a:UP}{b:YA}{i k:Nat}{n:Nd}
def TN(l:List Vt):Prop:=(∀x∈l,Yo x)/\l.Pairwise (fun a b=>a.Zu<b.Zu)
structure Dr(a:UP):Prop where
 bal:ZF a.p\/(a.p.r=0/\a.p.n=0)
 Xb:TN a.l
def Kd(b:YA):Prop:=0<=b.r/\b.r<=65536
theorem kq:∀(l:List Vt) (a:Int),l.Pairwise (fun a b=>a.Zu<b.Zu)->(∀x∈l,a<=x.Zu/\x.Zu<=39)->a<=40->((H l):Int)<=40-a:=by
 intro l
 induction l with
 | nil=>intro a _ _ h;simp;omega
 | cons x l ih=>
  intro a hp hx ha;rw[ch]at hp;have h1:=hx x IQ;have:=ih (x.Zu+1) hp.2 (fun y hy=>⟨by have:=hp.1 y hy;omega,(hx y (by simp[hy])).2⟩) pA;simp only[aO];omega
theorem TN.len{l:List Vt}(h:TN l):(H l)<=40:=by
 have:=kq l 0 h.2 (fun x hx=>⟨(h.1 x hx).1.1,(h.1 x hx).1.2⟩) pA;omega
theorem TN.nil:TN []:=⟨fun x hx=>by (cases hx),.nil⟩
theorem TN.ins{l:List Vt}(h:TN l){v:Vt}(hv:Yo v):TN (JH l v):=by
 unfold JH;refine⟨fun x hx=>?_,?_⟩
 .rcases a0.1 hx with hx|hx
  .exact h.1 x (a9.1 hx).1
  .rcases bB.1 hx with rfl|hx
   .exact hv
   .exact h.1 x (a9.1 hx).1
 .rw[List.pairwise_append,ch];refine⟨h.2.sublist bp,⟨fun y hy=>by simpa using (a9.1 hy).2,h.2.sublist bp⟩,fun x hx y hy=>?_⟩;have h1:x.Zu<v.Zu:=by simpa using (a9.1 hx).2
  rcases bB.1 hy with rfl|hy
  .exact h1
  .have h2:v.Zu<y.Zu:=by simpa using (a9.1 hy).2
   omega
theorem Dr.zero:Dr JN:=⟨.inr ⟨rfl,rfl⟩,TN.nil⟩
theorem ZF.I(h:ZF b):Kd b:=⟨by have:=h.1.1;omega,h.1.2⟩
theorem Dr.tO(h:Dr a):Kd a.p:=by
 rcases h.bal with q|q
 .exact q.I
 .unfold Kd;omega
structure Ui(C:List Cm)(l:YH):Prop where
 Z3:0<=l.Z3/\l.Z3<=7
 Jw:0<=l.Jw/\l.Jw<5
 to:0<=l.to/\l.to<5
 b:Kd l.b
 Zu:0<=l.v.Zu/\l.v.Zu<40
 vs:TN l.vs
 cmd:l.Z3=4->l.v.cm∈C
def S4{β:Type}(m:Int)(l:List (Int × β)):Prop:=(l.map (·.1)).Nodup/\∀x∈l.map (·.1),0<=x/\x<m
theorem S4.nil{β:Type}(m:Int):S4 m ([]:List (Int × β)):=⟨IQ,fun x hx=>by (cases hx)⟩
theorem S4.ins{β:Type}{m:Int}{l:List (Int × β)}(h:S4 m l){k:Int}(hk:0<=k/\k<m)(v:β):S4 m (ins l k v):=by
 obtain⟨h1,h2⟩:=dC (k:=k) (v:=v) h.1;refine⟨h1,fun x hx=>?_⟩;rcases h2 x hx with rfl|q
 .exact hk
 .exact h.2 x q
theorem tP:∀(m:Nat) (l:List Int),l.Nodup->(∀x∈l,0<=x/\x<(m:Int))->(H l)<=m:=by
 intro m
 induction m with
 | zero=>
  intro l _ h
  cases l with
  | nil=>simp
  | cons x l=>have:=h x IQ;omega
 | succ m ih=>
  intro l hn h;have h1:=ih (l.erase (m:Int)) (hn.erase _) (fun x hx=>by
   have hx':=(List.Nodup.mem_erase_iff hn).1 hx;have:=h x hx'.2;have:x≠(m:Int):=hx'.1;omega)
  have:(H l)<=(l.erase (m:Int)).length+1:=by rw[List.length_erase];split<;>omega
  omega
theorem S4.len{β:Type}{m:Nat}{l:List (Int × β)}(h:S4 (m:Int) l):(H l)<=m:=by
 have:=tP m _ h.1 h.2
 simpa using this
structure ML(r:XE):Prop where
 b:Kd r.b
 ZI:S4 5 r.ZI
 vs:∀x∈r.ZI,TN x.2
 RC:∀x∈r.Xb,S4 5 x.2
def Znw:Kv->Prop
 | .VN a to b vs=>Dr a/\(0<=to/\to<5)/\Kd b/\TN vs
 | .TX a to v=>Dr a/\(0<=to/\to<5)/\Yo v
 | .Zq a vs _=>Dr a/\TN vs
structure Uj(C:List Cm)(i:Nat)(n:Nd):Prop where
 me:n.me=i
 Yv:0<=n.Yv/\n.Yv<5
 Zq:Dr n.Zq
 Y1:Kd n.Y1
 Zs:∀p,n.Zs=X p->Znw p
 Zh:∀r,n.Zh=X r->ML r
 Zi:S4 40 n.Zi
 ZA:∀j,j<n.ZA.length->(Yh n.Zi (j:Int)).isSome=true
 Zx:n.Zx.Nodup/\∀x∈n.Zx,x∈C
 data:(H n.data)<=100000
theorem Uj.Ii{C:List Cm}(h:Uj C i n):n.ZA.length<=40:=by
 have h1:=FV n.Zi 0 n.ZA.length (fun j hj=>by simpa using h.ZA j hj);have h2:=h.Zi.len (m:=40);omega
theorem Nu{p:YA}{l:List Vt}(h:YI p l b=0):ZF b:=by
 unfold YI at h;by_cases c1:JG p l≠0
 .rw[if_pos c1]at h;cases h
 .rw[if_neg c1]at h;by_cases c2:¬ZF b
  .rw[if_pos c2]at h;cases h
  .simpa using c2
theorem Ij{p:YA}{l:List Vt}{x:Vt}(h:Xn p l x=0):Yo x:=by
 unfold Xn at h;by_cases c1:JG p l≠0
 .rw[if_pos c1]at h;cases h
 .rw[if_neg c1]at h;by_cases c2:¬Yo x
  .rw[if_pos c2]at h;cases h
  .simpa using c2
theorem dU{l:List Nat}{n:Int}(h:QC l n k=0):(H l)+(k+5)<=100000:=by
 unfold QC at h;by_cases c1:¬Y0 l n
 .rw[if_pos c1]at h;cases h
 .rw[if_neg c1]at h;by_cases c2:100000<(H l)+(k+5)
  .rw[if_pos c2]at h;cases h
  .omega
theorem Ke{l:List Nat}{n:Int}(h:Jp l n b=0):(H l)+14<=100000:=by
 unfold Jp at h;by_cases c1:¬Y0 l n
 .rw[if_pos c1]at h;cases h
 .rw[if_neg c1]at h;by_cases c2:¬ZF b
  .rw[if_pos c2]at h;cases h
  .rw[if_neg c2]at h;exact dU h
theorem dV{l:List Nat}{n:Int}{x:Vt}(h:Ue l n x=0):(H l)+38<=100000:=by
 unfold Ue at h;by_cases c1:¬Y0 l n
 .rw[if_pos c1]at h;cases h
 .rw[if_neg c1]at h;by_cases c2:¬Yo x
  .rw[if_pos c2]at h;cases h
  .rw[if_neg c2]at h;exact dU h
theorem Nv(b:YA):(YV (JT b)).length=14:=by rw[Vp];rfl
theorem Ar(x:Vt):(YV (Uy x)).length=38:=by rw[Vp];rfl
structure Px(C:List Cm)(i:Nat)(n:Nd)(o:Out):Prop where
 nd:Uj C i o.n
 ls:∀l∈o.ls,Ui C l
 few:(H o.ls)<=1
 ts:(H o.ts)+o.n.Zk.length<=n.Zk.length
theorem Px.same{C:List Cm}(h:Uj C i n):Px C i n ⟨n,[],[]⟩:=⟨h,(fun l hl=>by cases hl),IQ,IQ⟩
theorem Px.one{C:List Cm}(h:Uj C i n){l:YH}(hl:Ui C l):Px C i n ⟨n,[l],[]⟩:=⟨h,fun x hx=>by
 have:x=l:=by simpa using hx
 rw[this];exact hl,IQ,IQ⟩
theorem kr{C:List Cm}{l:YH}(hi:i<5)(h:Uj C i n)(hl:Ui C l):Px C i n (YG n l):=by
 have AW:0<=(n.me:Int)/\(n.me:Int)<5:=by rw[h.me];omega
 have v0:0<=SU.Zu/\SU.Zu<40:=aaa;unfold YG;by_cases c1:YI n.Zq.p n.Zq.l l.b≠0
 .rw[if_pos c1];exact Px.one h ⟨IQ,AW,hl.Jw,h.Zq.tO,v0,TN.nil,fun e=>by cases e⟩
 rw[if_neg c1];have hb:ZF l.b:=Nu (by simpa using c1);by_cases c2:n.Zq.p=l.b
 .rw[if_pos c2];exact Px.one h ⟨IQ,AW,hl.Jw,hl.b,v0,h.Zq.Xb,fun e=>by cases e⟩
 rw[if_neg c2];by_cases c3:Jp n.data n.Y4 l.b≠0
 .rw[if_pos c3];exact Px.same h
 rw[if_neg c3];have hd:=Ke (by simpa using c3);refine⟨{ h with Zs:=?_,data:=?_ },(fun x hx=>by cases hx),IQ,IQ⟩
 .intro p hp;obtain rfl:=Option.some.inj hp;exact⟨⟨.inl hb,h.Zq.Xb⟩,hl.Jw,hb.I,h.Zq.Xb⟩
 .show (n.data++YV (JT l.b)).length<=100000;rw[aa,Nv];exact hd
theorem Zew{C:List Cm}{l:YH}(hi:i<5)(h:Uj C i n)(hl:Ui C l):Px C i n (asked n l):=by
 have AW:0<=(n.me:Int)/\(n.me:Int)<5:=by rw[h.me];omega
 have v0:0<=SU.Zu/\SU.Zu<40:=aaa;unfold asked;by_cases c1:Xn n.Zq.p n.Zq.l l.v≠0
 .rw[if_pos c1];exact Px.one h ⟨IQ,AW,hl.Jw,h.Zq.tO,v0,TN.nil,fun e=>by cases e⟩
 rw[if_neg c1];have hv:Yo l.v:=Ij (by simpa using c1);by_cases c2:l.v∈n.Zq.l
 .rw[if_pos c2];exact Px.one h ⟨IQ,AW,hl.Jw,by unfold Kd Jq;simp,hl.Zu,TN.nil,fun e=>by cases e⟩
 rw[if_neg c2];by_cases c3:Ue n.data n.Y4 l.v≠0
 .rw[if_pos c3];exact Px.same h
 rw[if_neg c3];have hd:=dV (by simpa using c3);refine⟨{ h with Zs:=?_,data:=?_ },(fun x hx=>by cases hx),IQ,IQ⟩
 .intro p hp;obtain rfl:=Option.some.inj hp;exact⟨⟨.inl hv.2.1,h.Zq.Xb.ins hv⟩,hl.Jw,hv⟩
 .show (n.data++YV (Uy l.v)).length<=100000;rw[aa,Ar];exact hd
theorem ZaY{C:List Cm}{x:Cm}(h:Uj C i n)(hx:Yh n.Zi (n.ZA.length:Int)=X x):Uj C i (J4 n x)/\(WR n x).length+(J4 n x).Zk.length<=n.Zk.length:=by
 refine⟨{ h with ZA:=?_,Zx:=?_ },?_⟩
 .intro j hj;have hj':j<(n.ZA++[x]).length:=hj;show (Yh n.Zi (j:Int)).isSome=true;rw[aa,bh]at hj';by_cases e:j<n.ZA.length
  .exact h.ZA j e
  .have:j=n.ZA.length:=pA;subst this;rw[hx];rfl
 .exact⟨h.Zx.1.sublist bp,fun y hy=>h.Zx.2 y (a9.1 hy).1⟩
 .show (WR n x).length+(n.Zk.erase x).length<=n.Zk.length;unfold WR;by_cases c:x∈n.Zk
  .rw[if_pos c,ba c];have:=be c;simp;omega
  .rw[if_neg c,List.erase_of_not_mem c];simp
theorem tT{C:List Cm}:∀(k:Nat) (n:Nd),Uj C i n->Uj C i (Yg k n).1/\(Yg k n).2.length+(Yg k n).1.Zk.length<=n.Zk.length:=by
 intro k
 induction k with
 | zero=>intro n h;exact⟨h,by simp[Yg]⟩
 | succ k ih=>
  intro n h;unfold Yg
  cases hx:Yh n.Zi (n.ZA.length:Int) with
  | none=>exact⟨h,IQ⟩
  | some x=>
   obtain⟨h1,h2⟩:=ZaY h hx;obtain⟨h3,h4⟩:=ih _ h1;refine⟨h3,?_⟩;simp only[aa];omega
theorem nX{C:List Cm}(h:Uj C i n)(s:Int)(x:Cm)(hs:0<=s/\s<40):Px C i n (Jl n s x):=by
 have h1:Uj C i (Jk n s x):={ h with
  Zi:=h.Zi.ins hs x
  ZA:=fun j hj=>by
   show (Yh (ins n.Zi s x) (j:Int)).isSome=true;rw[Xk];split
   .rfl
   .exact h.ZA j hj }
 obtain⟨h2,h3⟩:=tT ((Jk n s x).Zi.length+1) (Jk n s x) h1;exact⟨h2,(fun l hl=>by cases hl),by simp[Jl],h3⟩
theorem Eb{β:Type}:∀{l:List (Int × β)} {k:Int} {v:β} {x:Int × β},x∈ins l k v->x.2=v\/x∈l:=by
 intro l
 induction l with
 | nil=>
  intro k v x hx;left;have:x=(k,v):=by simpa [ins] using hx
  rw[this]
 | cons y l ih=>
  intro k v x hx;obtain⟨a,b⟩:=y;unfold ins at hx;split at hx
  .rcases bB.1 hx with rfl|hx
   .exact .inl rfl
   .exact .inr (by simp[hx])
  .rcases bB.1 hx with rfl|hx
   .exact .inr IQ
   .rcases ih hx with q|q
    .exact .inl q
    .exact .inr (by simp[q])
theorem ku{C:List Cm}{l:YH}(hi:i<5)(h:Uj C i n)(hl:Ui C l):Px C i n (Ym n l):=by
 unfold Ym
 cases hr:n.Zh with
 | none=>exact Px.same h
 | some r=>
  have R:=h.Zh r hr;have hs:∀r',(TG n r l).Zh=X r'->ML r':=by
   intro r' Wg;obtain rfl:=Option.some.inj Wg;refine⟨R.b,R.ZI,R.vs,fun x hx=>?_⟩;rcases Eb hx with q|q
   .rw[q];unfold Ug;refine S4.ins ?_ hl.Jw ()
    cases hk:Yh r.Xb l.v.Zu with
    | none=>exact S4.nil 5
    | some s=>exact R.RC _ (RZ hk)
   .exact R.RC x q
  have hv:Uj C i (TG n r l):={ h with Zh:=hs }
  simp only;split
  .split
   .refine⟨{ h with Zh:=fun r' Wg=>?_ },(fun x hx=>by cases hx),IQ,by simp[ZdX]⟩;obtain rfl:=Option.some.inj Wg;refine⟨R.b,R.ZI.ins hl.Jw l.vs,fun x hx=>?_,R.RC⟩;rcases Eb hx with q|q
    .rw[q];exact hl.vs
    .exact R.vs x q
   .exact Px.same h
  .split
   .exact Px.same h
   .split
    .have:=nX hv l.v.Zu l.v.cm hl.Zu;exact⟨this.nd,this.ls,this.few,this.ts⟩
    .exact⟨hv,(fun x hx=>by cases hx),IQ,by simp[TG]⟩
theorem Zf6{C:List Cm}{x:Cm}(h:Uj C i n)(hx:x∈C):Uj C i (add n x):=by
 unfold add;split
 .exact h
 .rename_i q;refine { h with Zx:=⟨?_,fun y hy=>?_⟩ }
  .show (n.Zx++[x]).Nodup;rw[co];refine⟨h.Zx.1,IQ,fun a ha b hb e=>?_⟩;have:b=x:=by simpa using hb
   exact q (.inl (by rw[<-this,<-e];exact ha))
  .have hy:y∈n.Zx++[x]:=hy;rcases a0.1 hy with hy|hy
   .exact h.Zx.2 y hy
   .have:y=x:=by simpa using hy
    rw[this];exact hx
theorem nY{C:List Cm}{l:YH}(h:Uj C i n)(hl:Ui C l):Uj C i (Xz n l):=by
 unfold Xz;split
 .exact { h with Y1:=hl.b }
 .exact h
theorem Zex{C:List Cm}{l:YH}(hi:i<5)(h:Uj C i n)(hl:Ui C l):Px C i n (Qy n l):=by
 have AW:0<=(n.me:Int)/\(n.me:Int)<5:=by rw[h.me];omega
 have hn:=nY h hl;have hw:(Xz n l).Zk=n.Zk:=by unfold Xz;split<;>rfl
 unfold Qy;split
 .next y _=>
  refine⟨hn,fun x hx=>?_,IQ,by simp[hw]⟩;have:x=⟨6,n.me,l.Jw,Jq,QK l.v.Zu Jq y,[]⟩:=by simpa using hx
  rw[this];exact⟨IQ,AW,hl.Jw,by unfold Kd Jq;simp,hl.Zu,TN.nil,fun e=>by cases e⟩
 .exact⟨hn,(fun x hx=>by cases hx),IQ,by simp[hw]⟩
theorem Kf{C:List Cm}{l:YH}(hi:i<5)(h:Uj C i n)(hl:Ui C l):Px C i n (Zw n l):=by
 have hw:(Xz n l).Zk=n.Zk:=by unfold Xz;split<;>rfl
 unfold Zw;split
 .exact kr hi h hl
 split
 .exact ku hi h hl
 split
 .exact Zew hi h hl
 split
 .rename_i e;refine⟨Zf6 h (hl.cmd e),(fun x hx=>by cases hx),IQ,?_⟩;have:(add n l.v.cm).Zk=n.Zk:=by unfold add;split<;>rfl
  simp[this]
 split
 .exact Zex hi h hl
 split
 .exact nX h _ _ hl.Zu
 .exact⟨nY h hl,(fun x hx=>by cases hx),IQ,by simp[hw]⟩
theorem Uj.Zg{C:List Cm}(h:Uj C i n)(k:List YH):Uj C i { n with Zg:=k }:={ h with }
theorem nZ{C:List Cm}(hi:i<5):∀(k:List YH) (n:Nd),Uj C i n->(∀l∈k,Ui C l) ->
  Uj C i (ZB n k).n/\(∀l∈(ZB n k).ls,Ui C l)/\(∀l∈(ZB n k).n.Zg,Ui C l)/\(ZB n k).ls.length+(ZB n k).n.Zg.length<=(H k)/\(ZB n k).ts.length+(ZB n k).n.Zk.length<=n.Zk.length:=by
 intro k
 induction k with
 | nil=>
  intro n h _;unfold ZB;exact⟨h.Zg [],(fun x hx=>by cases hx),(fun x hx=>by cases hx),IQ,IQ⟩
 | cons l k ih=>
  intro n h hk;unfold ZB;split
  .exact⟨h.Zg _,(fun x hx=>by cases hx),hk,IQ,IQ⟩
  .have o:=Kf hi (h.Zg k) (hk l IQ);obtain⟨h1,h2,h3,h4,h5⟩:=ih _ o.nd (fun x hx=>hk x (by simp[hx]));have ots:=o.ts;have of:=o.few;refine⟨h1,fun x hx=>?_,h3,?_,?_⟩
   .rcases a0.1 hx with hx|hx
    .exact o.ls x hx
    .exact h2 x hx
   .simp only[aa,aO];omega
   .simp only[aa];have:({ n with Zg:=k }:Nd).Zk=n.Zk:=rfl;rw[this]at ots;omega
theorem Nw:∀{l C:List Cm},l.Nodup->(∀x∈l,x∈C)->(H l)<=(H C):=by
 intro l
 induction l with
 | nil=>intro C _ _;simp
 | cons x l ih=>
  intro C hn hs;rw[cu]at hn;have hx:=hs x IQ;have h1:=ih (C:=C.erase x) hn.2 (fun y hy=>by
   have Y7:y≠x:=fun e=>hn.1 (by rw[<-e];exact hy);exact (ca Y7).2 (hs y (by simp[hy])))
  rw[ba hx]at h1;have:=be hx;simp only[aO];omega
theorem Uj.hand{C:List Cm}{l:YH}(h:Uj C i n)(hl:Ui C l)(hC:(H C)<=100000)(hw:n.Zk.length<=100000){f t:Nat}(hf:f<=100000000000)(ht:t<=1000000):j8 n l f t:=by
 have NL:=h.Ii;have vg:=h.Zi.len (m:=40);have hq:n.Zx.length<=(H C):=Nw h.Zx.1 h.Zx.2;refine⟨hl.Z3,pA,by have:=h.Zq.Xb.len;omega,by have:=h.data;omega,pA,pA,pA,pA,pA,fun r s hr=>?_⟩
 cases hk:Yh r.Xb s with
 | none=>simp
 | some x=>
  have:=(h.Zh r hr).RC _ (RZ hk);have:(H x)<=5:=this.len (m:=5);simp only[Option.getD_some];omega
theorem Uj.dut{C:List Cm}(h:Uj C i n)(hC:(H C)<=100000){f:Nat}(hf:f<=100000000000):ZaU n f:=by
 have NL:=h.Ii;have hq:n.Zx.length<=(H C):=Nw h.Zx.1 h.Zx.2;refine⟨pA,by have:=h.Zq.Xb.len;omega,by have:=h.data;omega,fun r hr=>?_,pA,pA,h.Yv⟩;have R:=h.Zh r hr;have hp:r.ZI.length<=5:=R.ZI.len (m:=5);refine⟨fun x hx=>by have:=(R.vs x hx).len;omega,fun x hx v hv=>?_,pA⟩;have:=((R.vs x hx).1 v hv).1.2;omega
theorem ZaZ{C:List Cm}(hi:i<5)(hC:(H C)<=100000):∀(k:List YH) (n:Nd),Uj C i n->(∀l∈k,Ui C l)->n.Zk.length<=100000->∀f t,f+(H k)<=100000000000->t+n.Zk.length<=1000000->Ns n k f t:=by
 intro k
 induction k with
 | nil=>intro n _ _ _ f t _ _;exact trivial
 | cons l k ih=>
  intro n h hk hw f t hf ht;simp only[aO]at hf;unfold Ns;by_cases hp:n.Zs.isSome=true
  .exact .inl hp
  .have o:=Kf hi (h.Zg k) (hk l IQ);have ots:=o.ts;have of:=o.few;have:({ n with Zg:=k }:Nd).Zk=n.Zk:=rfl;rw[this]at ots;exact .inr ⟨(h.Zg k).hand (hk l IQ) hC hw pA pA,ih _ o.nd (fun x hx=>hk x (by simp[hx])) pA _ _ pA pA⟩
theorem Za0{C:List Cm}(hi:i<5)(hC:(H C)<=100000)(h:Uj C i n)(hk:∀l∈n.Zg,Ui C l)(hw:n.Zk.length<=100000){f t:Nat}(hf:f+n.Zg.length<=100000000000)(ht:t+n.Zk.length<=1000000):j9 n f t:=by
 obtain⟨h1,h2,h3,h4,h5⟩:=nZ hi n.Zg n h hk;exact⟨by have:=h.data;omega,pA,fun _=>ZaZ hi hC n.Zg n h hk hw f t hf ht,fun _ _=>h1.dut hC pA⟩
theorem Zey{r:XE}{x:Cm}(R:ML r):ML (Qc n r x):=by
 unfold Qc;split
 .exact⟨R.b,R.ZI,R.vs,R.RC⟩
 .exact R
theorem tU:∀(l:List Cm) (r:XE),ML r->ML (Jj n r l):=by
 intro l
 induction l with
 | nil=>intro r R;exact R
 | cons x l ih=>intro r R;exact ih _ (Zey R)
theorem Zez{r:XE}(R:ML r):ML (X9 n r):=by
 unfold X9;refine tU _ _ ?_;split
 .exact R
 .exact⟨R.b,R.ZI,R.vs,R.RC⟩
theorem As:Kd Jq:=by unfold Kd Jq;simp
theorem Zis{C:List Cm}{r:XE}(hi:i<5)(h:Uj C i n)(R:ML r):Uj C i (JU n r).n/\(∀l∈(JU n r).ls,Ui C l)/\(JU n r).n.Zg=n.Zg/\(JU n r).n.Zk=n.Zk:=by
 have AW:0<=(n.me:Int)/\(n.me:Int)<5:=by rw[h.me];omega
 have v0:0<=SU.Zu/\SU.Zu<40:=aaa;unfold JU;split
 .split
  .exact⟨h,(fun x hx=>by cases hx),rfl,rfl⟩
  .rename_i hd;have hd:=Ke (by simpa using hd);refine⟨{ h with Zs:=?_,data:=?_ },(fun x hx=>by cases hx),rfl,rfl⟩
   .intro p hp;obtain rfl:=Option.some.inj hp;by_cases c:YI n.Zq.p n.Zq.l r.b=0
    .simp only[c,if_true];exact⟨⟨.inl (Nu c),h.Zq.Xb⟩,h.Zq.Xb⟩
    .simp only[c,if_false];exact⟨Dr.zero,TN.nil⟩
   .show (n.data++YV (JT r.b)).length<=100000;rw[aa,Nv];exact hd
 .split
  .refine⟨h,fun l hl=>?_,rfl,rfl⟩;unfold Pq at hl;simp only[bS,bf]at hl;obtain⟨m,hm,hl⟩:=hl;split at hl
   .have:l=⟨0,n.me,m,r.b,SU,[]⟩:=by simpa using hl
    rw[this];exact⟨IQ,AW,by simp only;omega,R.b,v0,TN.nil,fun e=>by cases e⟩
   .cases hl
  .refine⟨{ h with Zh:=fun r' Wg=>?_ },fun l hl=>?_,rfl,rfl⟩
   .obtain rfl:=Option.some.inj Wg;exact Zez R
   .unfold TH at hl;simp only[bS,bf]at hl;obtain⟨s,hs,hl⟩:=hl;unfold VG at hl;split at hl
    .split at hl
     .simp only[bS,bf]at hl;obtain⟨m,hm,hl⟩:=hl;unfold PU at hl;split at hl
      .next x _ _ _=>
       have:l=⟨2,n.me,m,Jq,QK s (X9 n r).b x,[]⟩:=by simpa using hl
       rw[this];exact⟨IQ,AW,by simp only;omega,As,by simp only[QK];omega,TN.nil,fun e=>by cases e⟩
      .cases hl
     .cases hl
    .cases hl
theorem om{C:List Cm}(h:Uj C i n):Uj C i (Zo n)/\(Zo n).Zg=n.Zg/\(Zo n).Zk=n.Zk:=by
 unfold Zo;split
 .split
  .exact⟨{ h with Zh:=fun r hr=>by cases hr },rfl,rfl⟩
  .exact⟨h,rfl,rfl⟩
 .exact⟨h,rfl,rfl⟩
theorem ZeA{C:List Cm}(hi:i<5)(h:Uj C i n):Uj C i (Z9 n).n/\(∀l∈(Z9 n).ls,Ui C l)/\(Z9 n).n.Zg=n.Zg/\(Z9 n).n.Zk=n.Zk:=by
 have AW:0<=(n.me:Int)/\(n.me:Int)<5:=by rw[h.me];omega
 unfold Z9;split
 .next r hr=>exact Zis hi h (h.Zh r hr)
 .split
  .rename_i q;refine⟨h,fun l hl=>?_,rfl,rfl⟩;unfold WD at hl;simp only[cp]at hl;obtain⟨x,hx,rfl⟩:=hl;have hb:ZF n.Zq.p:=by
    rcases h.Zq.bal with e|e
    .exact e
    .have:=q.1;omega
   exact⟨IQ,AW,by simp only;have:=hb.2;omega,As,by simp[QK],TN.nil,fun _=>h.Zx.2 x hx⟩
  .exact⟨h,(fun x hx=>by cases hx),rfl,rfl⟩
theorem ZeB{C:List Cm}(h:Uj C i n):Kd (Vs n):=by
 unfold Vs;split
 .exact h.Y1
 .exact h.Zq.tO
theorem kv{C:List Cm}(hi:i<5)(hC:(H C)<=100000)(h:Uj C i n):Uj C i (Yq n).n/\(∀l∈(Yq n).ls,Ui C l)/\(Yq n).n.Zg=n.Zg/\(Yq n).n.Zk=n.Zk/\(Yq n).ls.length<=100201/\(Yq n).ts=[]:=by
 obtain⟨s1,s2,s3⟩:=om h;obtain⟨d1,d2,d3,d4⟩:=ZeA hi s1;have hq:(Zo n).Zx.length<=(H C):=Nw s1.Zx.1 s1.Zx.2;have hls:=dL (Zo n);unfold Yq;split
 .exact⟨d1,d2,by rw[d3,s2],by rw[d4,s3],pA,(MK _).2.2.2.2.2⟩
 .have tt:0<=((Z9 (Zo n)).n.Yv+1)%5/\((Z9 (Zo n)).n.Yv+1)%5<5:=pA;have t1:Uj C i (J7 (Z9 (Zo n)).n):={ d1 with Yv:=tt }
  have AW:0<=((J7 (Z9 (Zo n)).n).me:Int)/\((J7 (Z9 (Zo n)).n).me:Int)<5:=by rw[t1.me];omega
  refine⟨t1,fun l hl=>?_,by show (Z9 (Zo n)).n.Zg=_;rw[d3,s2],by show (Z9 (Zo n)).n.Zk=_;rw[d4,s3],?_,rfl⟩
  .rcases a0.1 hl with hl|hl
   .exact d2 l hl
   .unfold UV at hl;split at hl
    .rename_i q;have:l=⟨5,(J7 (Z9 (Zo n)).n).me,(J7 (Z9 (Zo n)).n).Yv,Vs (J7 (Z9 (Zo n)).n),QK (J7 (Z9 (Zo n)).n).ZA.length Jq Oa,[]⟩:=by simpa using hl
     rw[this];exact⟨IQ,AW,t1.Yv,ZeB t1,by simp only[QK];have:=q.2;omega,TN.nil,fun e=>by cases e⟩
    .cases hl
  .have:(UV (J7 (Z9 (Zo n)).n)).length<=1:=by unfold UV;split<;>simp
   simp only[aa];omega
theorem Ec{C:List Cm}(h:Uj C i n):Uj C i (ZQ n):=by
 refine { h with Zs:=(fun p hp=>by cases hp),data:=?_ };show (if Y0 n.data n.Y4 then n.data else []).length<=100000;split
 .exact h.data
 .simp
theorem Ed{C:List Cm}{p:Kv}(hi:i<5)(h:Uj C i n)(P:Znw p):Uj C i (YM n p).n/\(∀l∈(YM n p).ls,Ui C l)/\(YM n p).n.Zg=n.Zg/\(YM n p).n.Zk=n.Zk/\(YM n p).ls.length<=1/\(YM n p).ts=[]:=by
 have AW:0<=(n.me:Int)/\(n.me:Int)<5:=by rw[h.me];omega
 have v0:0<=SU.Zu/\SU.Zu<40:=aaa
 cases p with
 | VN a to b vs=>
  obtain⟨p1,p2,p3,p4⟩:=P;refine⟨{ h with Zq:=p1 },fun l hl=>?_,rfl,rfl,by simp[YM],rfl⟩;have:l=⟨1,n.me,to,b,SU,vs⟩:=by simpa [YM] using hl
  rw[this];exact⟨IQ,AW,p2,p3,v0,p4,fun e=>by cases e⟩
 | TX a to v=>
  obtain⟨p1,p2,p3⟩:=P;refine⟨{ h with Zq:=p1 },fun l hl=>?_,rfl,rfl,by simp[YM],rfl⟩;have:l=⟨3,n.me,to,Jq,v,[]⟩:=by simpa [YM] using hl
  rw[this];exact⟨IQ,AW,p2,As,by have:=p3.1;simp only;omega,TN.nil,fun e=>by cases e⟩
 | Zq a vs cur=>
  obtain⟨p1,p2⟩:=P;refine⟨{ h with Zq:=p1,Zh:=fun r hr=>?_ },(fun x hx=>by cases hx),rfl,rfl,by simp[YM],rfl⟩;have hr:(if cur=true then n.Zh.map (fun r=>{ r with ZI:=ins r.ZI n.me vs }) else n.Zh)=X r:=hr;split at hr
  .rw[a8]at hr;obtain⟨r0,h0,rfl⟩:=hr;have R:=h.Zh r0 h0;refine⟨R.b,R.ZI.ins AW vs,fun x hx=>?_,R.RC⟩;rcases Eb hx with q|q
   .rw[q];exact p2
   .exact R.vs x q
  .exact h.Zh r hr
theorem Zit{C:List Cm}(hi:i<5)(hC:(H C)<=100000)(h:Uj C i n)(hk:∀l∈n.Zg,Ui C l):
  Uj C i (step n).n/\(∀l∈(step n).ls,Ui C l)/\(∀l∈(step n).n.Zg,Ui C l)/\(step n).ls.length+(step n).n.Zg.length<=n.Zg.length+100201/\(step n).ts.length+(step n).n.Zk.length<=n.Zk.length:=by
 unfold step;split
 .cases hp:n.Zs with
  | some p=>
   obtain⟨f1,f2,f3,f4,f5,f6⟩:=Ed hi (Ec h) (h.Zs p hp);refine⟨f1,f2,by simp only;rw[f3];exact hk,?_,?_⟩
   .simp only;rw[f3];show _+n.Zg.length<=_;omega
   .simp only;rw[f4,f6];show 0+n.Zk.length<=_;omega
  | none=>
   obtain⟨d1,d2,d3,d4,d5⟩:=nZ hi n.Zg n h hk;simp only;split
   .exact⟨d1,d2,d3,pA,d5⟩
   .obtain⟨e1,e2,e3,e4,e5,e6⟩:=kv hi hC d1;refine⟨e1,fun l hl=>?_,by simp only;rw[e3];exact d3,?_,?_⟩
    .rcases a0.1 hl with hl|hl
     .exact d2 l hl
     .exact e2 l hl
    .simp only[aa];rw[e3];omega
    .simp only;rw[e4,e6,List.append_nil];exact d5
 .exact⟨h,(fun x hx=>by cases hx),hk,IQ,IQ⟩
theorem Ziu{a':UP}{b:List Nat}(h:JK a b=X a')(ha:Dr a):Dr a':=by
 unfold JK at h;split at h
 .split at h
  .rename_i q
   cases h
   exact⟨.inl (Nu q),ha.Xb⟩
  .cases h
 .split at h
  .split at h
   .cases h
   .split at h
    .rename_i q
     cases h
     have hv:=Ij q;exact⟨.inl hv.2.1,ha.Xb.ins hv⟩
    .cases h
  .cases h
theorem ZeC(l:List Nat):∀(f:Nat) (a:UP) (k:Nat),Dr a->Dr (FN l f a k).1:=by
 intro f
 induction f with
 | zero=>intro a k h;exact h
 | succ f ih=>
  intro a k h;unfold FN
  cases hs:Y9 l a k with
  | none=>exact h
  | some x=>
   refine ih _ _ ?_;unfold Y9 at hs;split at hs
   .rw[a8]at hs;obtain⟨y,hy,rfl⟩:=hs;exact Ziu hy h
   .cases hs
theorem Za1(l:List Nat):Dr (TJ l).1:=ZeC l _ _ _ Dr.zero
theorem Gn{C:List Cm}{up:Bool}{data:List Nat}{Y4:Int}{Zq:UP}(hd:(H data)<=100000)(ho:Dr Zq):Uj C i (Yu i up data Y4 Zq):=
 ⟨rfl,by unfold Yu;simp,ho,As,(fun p hp=>by cases hp),(fun r hr=>by cases hr),S4.nil 40,(fun j hj=>by cases hj),⟨by simp[Yu],(fun x hx=>by cases hx)⟩,hd⟩
theorem tV{C:List Cm}(h:Uj C i n)(Zf:Int):Uj C i (Xy i n Zf)/\((Xy i n Zf).Zg=[]/\(Xy i n Zf).Zk=[]\/Xy i n Zf=n):=by
 unfold Xy;split
 .split
  .refine⟨Gn ?_ Dr.zero,.inl ⟨rfl,rfl⟩⟩;have:=h.data;rw[a1];omega
  .exact⟨Gn IQ Dr.zero,.inl ⟨rfl,rfl⟩⟩
 .exact⟨h,.inr rfl⟩
theorem Cu{C:List Cm}(h:Uj C i n):Uj C i (started i n)/\((started i n).Zg=[]/\(started i n).Zk=[]\/started i n=n):=by
 unfold started;split
 .exact⟨h,.inr rfl⟩
 .refine⟨Gn ?_ ?_,.inl ⟨rfl,rfl⟩⟩
  .unfold FO;have:=h.data;split
   .rw[a1];omega
   .simp
  .split
   .exact Za1 _
   .exact Dr.zero
theorem Za2{C:List Cm}(h:Uj C i n):Uj C i (lead n)/\(lead n).Zg=n.Zg/\(lead n).Zk=n.Zk:=by
 unfold lead;split
 .exact⟨h,rfl,rfl⟩
 .rename_i q;refine⟨{ h with Zs:=?_,Zh:=fun r hr=>?_ },rfl,rfl⟩
  .intro p hp;have hp:Ja n.Zs=X p:=hp
   cases hn:n.Zs with
   | none=>rw[hn]at hp;cases hp
   | some p0=>
    have P:=h.Zs p0 hn;rw[hn]at hp
    cases p0 with
    | VN a to b vs=>cases hp;exact P
    | TX a to v=>cases hp;exact P
    | Zq a vs cur=>cases hp;exact P
  .obtain rfl:=Option.some.inj hr;refine⟨⟨?_,?_⟩,S4.nil 5,(fun x hx=>by cases hx),(fun x hx=>by cases hx)⟩
   .have h1:=h.Zq.tO.1;show 0<=(Ju n).r;unfold Ju;simp only;split<;>omega
   .have:¬65536<(Ju n).r:=fun e=>q (.inr e);show (Ju n).r<=65536;omega
def VH(f:Nat->Nat):Nat:=f 0+f 1+f 2+f 3+f 4
theorem Za3(f:Nat->Nat)(i a:Nat)(hi:i<5):VH (fun j=>if j=i then a else f j)+f i=VH f+a:=by
 unfold VH
 match i,hi with
 | 0,_=>simp;omega
 | 1,_=>simp;omega
 | 2,_=>simp;omega
 | 3,_=>simp;omega
 | 4,_=>simp;omega
theorem ov(f:Nat->Nat)(i:Nat)(hi:i<5):f i<=VH f:=by
 unfold VH
 match i,hi with
 | 0,_=>omega
 | 1,_=>omega
 | 2,_=>omega
 | 3,_=>omega
 | 4,_=>omega
structure WI(C:List Cm)(k:Nat)(w:Wd):Prop where
 nd:∀i,i<5->Uj C i (w.Zb i)
 Wz:∀i,i<5->∀l∈(w.Zb i).Zg,Ui C l
 Mf:∀l∈w.Zp,Ui C l
 room:w.Zp.length+VH (fun i=>(w.Zb i).Zg.length)<=k*100300
 wait:w.ZE.length+VH (fun i=>(w.Zb i).Zk.length)<=k
 Yy:∀i,0<=w.Yy i/\w.Yy i<=k
theorem RH(w:Wd)(i:Nat)(n:Nd)(g:Nd->Nat)(hi:i<5):VH (fun j=>g (if j=i then n else w.Zb j))+g (w.Zb i)=VH (fun j=>g (w.Zb j))+g n:=by
 have:=Za3 (fun j=>g (w.Zb j)) i (g n) hi;have e:(fun j=>g (if j=i then n else w.Zb j))=(fun j=>if j=i then g n else g (w.Zb j)):=by
  funext j;split<;>rfl
 rw[e];exact this
theorem WI.out{C:List Cm}{w:Wd}(h:WI C k w)(hi:i<5){o:Out}(h1:Uj C i o.n)(h2:∀l∈o.ls,Ui C l)(h3:∀l∈o.n.Zg,Ui C l)(h4:(H o.ls)+o.n.Zg.length<=(w.Zb i).Zg.length+100300)(h5:(H o.ts)+o.n.Zk.length<=(w.Zb i).Zk.length+1):WI C (k+1) (w.out i o):=by
 unfold Wd.out;refine⟨fun j hj=>?_,fun j hj l hl=>?_,fun l hl=>?_,?_,?_,fun j=>by have:=h.Yy j;simp only;omega⟩
 .by_cases e:j=i
  .subst e;simpa using h1
  .simp only[if_neg e];exact h.nd j hj
 .by_cases e:j=i
  .subst e;simp only[if_true]at hl;exact h3 l hl
  .simp only[if_neg e]at hl;exact h.Wz j hj l hl
 .rcases a0.1 hl with hl|hl
  .exact h.Mf l hl
  .exact h2 l hl
 .have:=RH w i o.n (fun n=>n.Zg.length) hi;have hr:=h.room;simp only[aa]at this ⊢;omega
 .have:=RH w i o.n (fun n=>n.Zk.length) hi;have hr:=h.wait;simp only[aa]at this ⊢;omega
theorem Sz(w:Wd)(i:Nat)(n:Nd):w.set i n=w.out i ⟨n,[],[]⟩:=by
 unfold Wd.set Wd.out;simp
theorem WI.more{C:List Cm}{w:Wd}(h:WI C k w):WI C (k+1) w:=
 ⟨h.nd,h.Wz,h.Mf,bg h.room (bk _ (bx k)),bg h.wait (bx k),fun i=>⟨(h.Yy i).1,by have:=(h.Yy i).2;omega⟩⟩
theorem WI.ok{C:List Cm}{w:Wd}(h:WI C k w)(hC:(H C)<=100000)(hk:k<=100000):WOk w:=by
 have hr:=h.room;have hw:=h.wait;have Mn:∀i,i<5->(w.Zb i).Zg.length+w.Zp.length<=10030000000:=fun i hi=>by
  have:(w.Zb i).Zg.length<=_:=ov (fun i=>(w.Zb i).Zg.length) i hi;omega
 have Gu:∀i,i<5->(w.Zb i).Zk.length+w.ZE.length<=100000:=fun i hi=>by
  have:(w.Zb i).Zk.length<=_:=ov (fun i=>(w.Zb i).Zk.length) i hi;omega
 refine⟨fun i hi=>(h.nd i hi).me,fun i hi=>Za0 hi hC (h.nd i hi) (h.Wz i hi) (by have:=Gu i hi;omega) (by have:=Mn i hi;omega) (by have:=Gu i hi;omega),fun i hi=>?_,fun i hi=>?_,fun i hi=>?_,fun i hi=>?_,fun i hi=>?_,?_,fun i hi=>?_,fun i hi=>?_,fun i hi r hr=>?_,fun l hl=>(h.Mf l hl).to,?_⟩
 .have:=Nw (h.nd i hi).Zx.1 (h.nd i hi).Zx.2;omega
 .have:=(h.nd i hi).Ii;omega
 .have:=Gu i hi;omega
 .have:=Mn i hi;omega
 .have:=(h.nd i hi).data;omega
 .have:=Gu 0 pA;omega
 .have:=h.Yy i;omega
 .have h1:=(h.nd i hi).Zq.tO;have h2:=(h.nd i hi).Y1;unfold Kd at h1 h2;omega
 .have h1:=((h.nd i hi).Zh r hr).b;unfold Kd at h1;omega
 .have:=Mn 0 pA;omega
set_option maxRecDepth 100000
set_option maxHeartbeats 8000000 in
theorem Ziv(T:bz)(h:Hp)(o:Ow)(wb:Nat)(YN:Nat->Nat)(Xw:WA)(w:Wd)(a:Ac)(dv:ae)(d:Vz o h)(A:QM o h wb YN Xw w)(ok:WOk w)(hk:1<=a.Z3/\a.Z3<=9)(hi:a.ZS<5)(iv:Pv o h dv a.data)(hrl:(H a.data)<=140737488355328)(tb:dp o h):
  Zd a5 T 37 #[Zz wb,aN (F9 a.Z3 a.ZS a.at' a.Zf dv).toArray] h fun v' h'=>∃o' JD Zwx,Kp S3 o h o' h'/\QM o' h' wb Zwx JD (act w a):=by
 obtain⟨pd,cd,hdv,Wx⟩:=iv.1.fits;have dg:RY dv:=by rw[hdv];exact Wx
 subst hdv;refine Zd.XS [_,_] Tryz.func37 ?_;unfold Zz F9;obtain⟨h1,Xp⟩:=ZL (h.push (ab (F9 a.Z3 a.ZS a.at' a.Zf (U pd (H a.data) cd)).toArray 36):Hp);have k1:Kp Wy o h o h1:=by rw[Xp];exact Yw d _
 have x3:Yb o h1 h.size (ab (F9 a.Z3 a.ZS a.at' a.Zf (U pd (H a.data) cd)).toArray 36):=⟨d _ (am _),by rw[Xp];exact Zc⟩
 have e0:=Xp.symm;unfold F9 at e0;have A1:=A.Zo k1;have tb1:=tb.Zf k1;have R1:=XX A1.wd.ZZ.2;have Rn:=R1.Zb;obtain⟨b,off,c,hn,hc5,hb,Kc⟩:=TM A1.wd;rw[hn]at Rn;have Am:=Za A1.wd.ZZ.2;have q0:hc h1 ⟨h.size,0,Y⟩=X (W O a.Z3):=Zn x3.2;have q1:hc h1 ⟨h.size,1,Y⟩=X (W O a.ZS):=Zn x3.2;have q2:hc h1 ⟨h.size,2,Y⟩=X (W O a.at'):=Zn x3.2;have q3:hc h1 ⟨h.size,3,Y⟩=X (W O a.Zf):=Zn x3.2;have q4:hc h1 ⟨h.size,4,Y⟩=X (U pd (H a.data) cd):=Zn x3.2;have l3:=Za x3.2;have ri:=Kc a.ZS hi;unfold Zz at ri;have KT:(a.ZS:Int)<5:=pA;obtain⟨na,N1⟩:=A1.nd a.ZS hi;have T4:=Za N1.ZZ.2;have iv1:=iv.Zf k1;have dI:a.Z3=1\/a.Z3=2\/a.Z3=3\/(a.Z3=4\/a.Z3=5\/a.Z3=6)\/a.Z3=7\/a.Z3=8\/a.Z3=9:=pA;rcases dI with e|e|e|e|e|e|e
 ·-- a command
  have ea:act w a=Jz w a.ZS a.data:=by unfold act;rw[if_pos e]
  rw[ea];rw[e]at q0;have cs:=tL T h1 o wb YN Xw w a.ZS a.data (U pd (H a.data) cd) k1.Yn A1 hi (ok.me _ hi) iv1 dg hrl tb1 (by have:=ok.Zx _ hi;omega) (by have:=ok.ZA _ hi;omega) (by have:=ok.Zk _ hi;omega) (by have:=ok.ZE;omega) (ok.Yy _ hi);unfold Zz at cs;simp -implicitDefEqProofs only[go_sem,e0,q0];refine VS.z (h1.size) [11] (.p 0 (.p 1 (.p 2 (.p 3 (.q 4 (.p 5 (.q 6 (.p 7 (.q 8 (.p 9 (.q 10 (.w 11 .nil)))))))))))) mixed vM ?_;simp -implicitDefEqProofs only[go_sem,Rn,q1,q4,Am,l3,hb,KT,ri];refine cs.use ?_;rintro v' g ⟨o',JD,kk,A'⟩;simp -implicitDefEqProofs only[go_sem];exact⟨o',JD,YN,(YS k1).trans kk,A'⟩
 ·-- to lead
  have ea:act w a=w.set a.ZS (lead (w.Zb a.ZS)):=by unfold act;rw[if_neg pA,if_pos e]
  rw[ea];rw[e]at q0;have cs:=Zeu T h1 o wb a.ZS (YN a.ZS) na (w.Zb a.ZS) k1.Yn N1 (ok.Zwu _ hi) (ok.S9 _ hi);unfold Zz at cs;simp -implicitDefEqProofs only[go_sem,e0,q0];refine VS.z (h1.size) [9] (.p 0 (.p 1 (.p 2 (.p 3 (.q 4 (.p 5 (.q 6 (.p 7 (.q 8 (.w 9 .nil)))))))))) mixed vM ?_;simp -implicitDefEqProofs only[go_sem,Rn,q1,Am,l3,hb,KT,ri];refine cs.use ?_;rintro v' g ⟨o',a',kk,N'⟩;simp -implicitDefEqProofs only[go_sem];exact⟨o',Xw,YN,(YS k1).trans (YS kk),A1.Yv (kk.mono fun t q=>.inr (.inr (.inr q))) N' (A1.wd.Zf kk fun t q e=>by rw[q]at e;cases e)⟩
 ·-- a step
  have ea:act w a=w.out a.ZS (step (w.Zb a.ZS)):=by unfold act;rw[if_neg pA,if_neg pA,if_pos e]
  rw[ea];rw[e]at q0;have cs:=ZaV T h1 o wb a.ZS (YN a.ZS) YN na (w.Zb a.ZS) Xw w.Zp w.Yy w.ZE k1.Yn N1 A1.wd tb1 (ok.step _ hi);unfold Zz at cs;simp -implicitDefEqProofs only[go_sem,e0,q0];refine VS.z (h1.size) [9] (.p 0 (.p 1 (.p 2 (.p 3 (.q 4 (.p 5 (.q 6 (.p 7 (.q 8 (.w 9 .nil)))))))))) mixed vM ?_;simp -implicitDefEqProofs only[go_sem,Rn,q1,Am,l3,hb,KT,ri];refine cs.use ?_;rintro v' g ⟨o',a',JD,kk,N',W'⟩;simp -implicitDefEqProofs only[go_sem];exact⟨o',JD,YN,(YS k1).trans (YS kk),A1.Yv kk N' W'⟩
 ·-- a letter
  have ea:act w a=pick w a.at' (decide (a.Z3≠5)) (decide (a.Z3=6)):=by unfold act;rw[if_neg pA,if_neg pA,if_neg pA,if_pos e]
  rw[ea];have cs:=ZaW T h1 o wb YN Xw w a.at' (decide (a.Z3≠5)) (decide (a.Z3=6)) k1.Yn A1 ok.to (by have:=ok.room;omega) (fun j hj=>by have:=ok.Zg j hj;omega);unfold Zz at cs;rcases e with e|e|e
  all_goals
   rw[e]at q0 cs ⊢;rw[e]at e0;simp -implicitDefEqProofs only[go_sem,e0,q0,q2];refine cs.use ?_;rintro v' g ⟨o',JD,kk,A'⟩;simp -implicitDefEqProofs only[go_sem];exact⟨o',JD,YN,(YS k1).trans kk,A'⟩
 ·-- all ZqT
  have ea:act w a=w.Zp.foldl QL { w with Zp:=[] }:=by unfold act;rw[if_neg pA,if_neg pA,if_neg pA,if_neg pA,if_pos e]
  rw[ea];rw[e]at q0;have Xf:=ok.room;obtain⟨pf,cf,hf,hfc⟩:=RF A1.wd.Zp;have Rf:=R1.Zp;rw[hf]at Rf;obtain⟨g2,w2,W2,k2⟩:=A1.wd.Cr (fl':=[]) (v:=U Y 0 0) (Kp.refl k1.Yn (fun t=>t=.Zp)) ⟨[],rfl,XB.nil _ _ _ _ _,fun x hx=>by cases hx⟩ (R1.Ak (U Y 0 0) rfl);have A2:QM o g2 wb YN { Xw with Zp:=U Y 0 0 } { w with Zp:=[] }:=A1.Zep k2 (by rintro t rfl;rfl) W2;have L2:WE o .Zp g2 (U pf w.Zp.length cf) w.Zp:=by rw[<-hf];exact A1.wd.Zp.Zf k2 Va
  have K2:Kp S3 o h o g2:=(YS k1).trans (YS k2);simp -implicitDefEqProofs only[go_sem,e0,q0,Rf,Am,w2];refine VS.Yk (fun F g=>F 0=aD (X ⟨wb,0,Y⟩)/\F 118=U pf w.Zp.length cf/\F 119=W O w.Zp.length/\∃(j:Nat) (o':Ow),j<=w.Zp.length/\F 120=W O j/\Kp S3 o h o' g/\QM o' g wb YN { Xw with Zp:=U Y 0 0 } ((w.Zp.take j).foldl QL { w with Zp:=[] })/\WE o' .Zp g (U pf w.Zp.length cf) w.Zp)
   (fun F _=>w.Zp.length-(vi (F 120)).toNat) rfl ⟨rfl,rfl,rfl,0,o,bA _,rfl,K2,A2,L2⟩ ?_
  rintro F3 g3 ⟨f0,f118,f119,j,o3,hj,f120,K3,A3,L3⟩;by_cases ZT:j<w.Zp.length
  .have Z7:(j:Int)<w.Zp.length:=pA;obtain⟨v,b3,ZJs,c3,hv,hvc,hb3,Ziw,iv3⟩:=nW L3 j ZT;simp only[Value.slice.injEq]at hv;obtain⟨rfl,_,rfl⟩:=hv;obtain⟨l,hl⟩:=ZL (w.Zp[j]);rw[<-hl]at Ziw iv3;have nC:l∈w.Zp:=by rw[hl];exact b6 ZT
   obtain⟨pw,cw,rfl⟩:=iv3.ZP;obtain⟨g4,HW⟩:=ZL (g3.push (ab (XV l (U pw (H l.vs) cw)).toArray 135):Hp);have k4:Kp Wy o3 g3 o3 g4:=by rw[HW];exact Yw K3.Yn _
   have x6:Yb o3 g4 g3.size (ab (XV l (U pw (H l.vs) cw)).toArray 135):=⟨K3.Yn _ (am _),by rw[HW];exact Zc⟩
   have e4:=HW.symm;have r6:rd g4 ⟨g3.size,0,Y⟩ 14=X (XV l (U pw (H l.vs) cw)):=Zy x6.2 rfl;obtain⟨wj,hwj⟩:=ZL ((w.Zp.take j).foldl QL { w with Zp:=[] });rw[<-hwj]at A3;have XI:(w.Zp.take (j+1)).foldl QL { w with Zp:=[] } = QL wj l:=by
    rw[Y8 _ j ZT,<-hl,cq,<-hwj];rfl
   have cc:=Aq T g4 o3 wb YN _ wj l (U pw (H l.vs) cw) k4.Yn (A3.Zo k4) (iv3.Zf k4) (ok.to l nC) (fun i hi=>by
    have h1:=dS i (w.Zp.take j) { w with Zp:=[] };rw[<-hwj,a1]at h1;have h2:=ok.Zg i hi;have h3:=ok.room;have h4:(({ w with Zp:=[] }:Wd).Zb i).Zg.length=(w.Zb i).Zg.length:=rfl;omega)
   unfold Zz XV at cc;unfold XV at e4 r6 Ziw;simp -implicitDefEqProofs only[go_sem,f0,f118,f119,f120,Z7,Ziw,e4,r6];refine cc.use ?_;rintro v' g5 ⟨o5,k5,A5⟩;simp -implicitDefEqProofs only[go_sem,f120];unfold XN;refine⟨⟨f0,f118,f119,j+1,o5,ZT,rfl,(K3.trans (YS k4)).trans (YS k5),by rw[XI];exact A5,(L3.Zf k4 (fun q=>q.elim)).Zf k5 (by rintro⟨_,e⟩;cases e)⟩,?_⟩;simp only[vi,Zr,↓reduceIte,f120];omega
  .have Xv:¬(j:Int)<w.Zp.length:=pA;obtain rfl:j=w.Zp.length:=pA;rw[al (am _)]at A3;simp -implicitDefEqProofs only[go_sem,f119,f120,Xv];exact⟨o3,_,YN,K3,A3⟩
 ·-- a ZBP
  have ea:act w a=w.set a.ZS (Xy a.ZS (w.Zb a.ZS) a.Zf):=by unfold act;rw[if_neg pA,if_neg pA,if_neg pA,if_neg pA,if_neg pA,if_pos e]
  rw[ea];rw[e]at q0;obtain⟨n,DK⟩:=ZL (w.Zb a.ZS);have Zix:=ok.data _ hi;rw[<-DK]at N1 Zix;have P1:=ZR N1.ZZ.2 N1.pt.store.len;have P1u:=P1.up;simp -implicitDefEqProofs only[go_sem,e0,q0];refine VS.mono (N:=fun F' g'=>Zj h1.size h1 g'/\F' 0=aD (X ⟨wb,0,Y⟩)/\F' 3=aD (X ⟨h.size,0,Y⟩)/\F' 7=aD (X ⟨YN a.ZS,0,Y⟩)) ?_ ?_ (fun _ _ _ h=>h) (fun _ _ h=>h)
  .refine VS.z (h1.size) [] (.p 0 (.p 1 (.p 2 (.q 3 (.p 4 (.q 5 (.p 6 (.q 7 (.p 8 .nil))))))))) mixed vM ?_;simp -implicitDefEqProofs only[go_sem,Rn,q1,Am,l3,hb,KT,ri]
   try exact Zj.refl _ _
  rintro F2 g2 ⟨b2,f0,f3,f7⟩;have NM:=ZX k1.Yn b2;have A2:=A1.Zo NM;have N2:=N1.Zo NM;have K2:=k1.trans NM;have y3:=x3.Zf NM;have P2:=ZR N2.ZZ.2 N2.pt.store.len;have nV:=P2.up;have Us:=Za N2.ZZ.2;clear P1 P1u
  cases hu:n.up with
  | false=>
   rw[hu]at nV;have e1:Xy a.ZS (w.Zb a.ZS) a.Zf=w.Zb a.ZS:=by unfold Xy;rw[<-DK,if_neg (by rw[hu];simp)]
   rw[e1,dQ];simp -implicitDefEqProofs only[go_sem,f7,nV];exact⟨o,Xw,YN,YS K2,A2⟩
  | true=>
   rw[hu]at nV;obtain⟨pt,ct,vJ⟩:=N2.pt.data.1.ZP;have vJ:na.data=U pt (H n.data) ct:=vJ;have P2t:=P2.tape;rw[vJ]at P2t;have ND:=N2.pt.data;rw[vJ]at ND;obtain⟨L,Z,E,hLZ⟩:∃L Z E,Oy n.data n.Y4 a.Zf=(L,Z,E):=⟨_,_,_,rfl⟩
   have q3:hc g2 ⟨h.size,3,Y⟩=X (W O a.Zf):=Zn y3.2;have l3:=Za y3.2;have call:∀G,Zj g2.size g2 G->Zd a5 T 55 #[aN #[U pt (H n.data) ct,W O n.Y4],W O a.Zf] G fun v' h'=>Zj G.size G h'/\mY G.size h' v' (L,Z,E):=fun G hG=>by
    rw[<-hLZ];exact yV T G _ n.Y4 a.Zf n.data (ND.bs.Yz hG) pA
   have wT:∀(G:Hp) (k:Nat) (m:Int) (p:Option Addr) (L c:Nat),G[k]? = X (ab [U Y 0 0,W O 0].toArray 100)->wr G ⟨k,0,Y⟩ [U p L c,W O m]=X (G.setIfInBounds k (ab [U p L c,W O m].toArray 100)):=fun G k m p L c hx=>by
    rw[Ye hx 0 _];rfl
   rw[kj a.ZS (w.Zb a.ZS) a.Zf L Z E (by rw[<-DK];exact hu) (by rw[<-DK];exact hLZ)];simp -implicitDefEqProofs only[go_sem,f7,nV];refine VS.mono (N:=fun F' g'=>F' 0=aD (X ⟨wb,0,Y⟩)/\F' 3=aD (X ⟨h.size,0,Y⟩)/\Zj g2.size g2 g'/\∃kt p c,F' 8=aD (X ⟨kt,0,Y⟩)/\g'[kt]? = X (ab [U p (H L) c,W O Z].toArray 100)/\Pv o g' (U p (H L) c) L) ?_ ?_ (fun _ _ _ h=>h) (fun _ _ h=>h)
   .refine VS.z (g2.size) [6,11] (.p 0 (.p 1 (.p 2 (.q 3 (.p 4 (.q 5 (.or 6 (.p 7 (.p 8 (.p 9 (.s 10 (.w 11 (.p 12 .nil)))))) (.s 10 (.w 6 (.p 7 (.p 8 (.p 9 (.w 11 (.p 12 .nil)))))))))))))) mixed vM ?_;simp -implicitDefEqProofs only[go_sem,f0,f3,f7,P2t,q3,Us,l3]
    repeat' (first|with_reducible exact Zj.refl _ _|with_reducible exact Zj.push pA _|with_reducible refine And.intro ?_ ?_)
    all_goals first
     | (refine (call g2 (Zj.refl _ _)).use ?_
        rintro _ g5 ⟨b5,p5,c5,L',Z',E',hz,rfl,bs,hcc,hbl⟩
        cases hz
        have s5:=b5.size;have kk:=ZX K2.Yn b5;have im:Pv o g5 (U p5 (H L) c5) L:=Ea kk.Yn bs hcc fun b hb=>⟨K2.Yn b (hbl b hb).1,(hbl b hb).2⟩
        simp -implicitDefEqProofs only[go_sem,b5];exact⟨f0,f3,_,_,_,rfl,Zc,im.Zf (Yw kk.Yn _)⟩)
     | (refine (call (g2.push (ab _ 100)) (Zj.push (am _) _)).use ?_
        rintro _ g5 ⟨b5,p5,c5,L',Z',E',hz,rfl,bs,hcc,hbl⟩
        cases hz
        have B5:Zj g2.size g2 g5:=(Zj.push (am _) _).trans (b5.mono IQ);have xA:=b5.get (k:=g2.size) IQ Zc;have PM:=wT _ _ Z p5 (H L) c5 xA;have zA:=Za xA;have kk:=ZX K2.Yn B5;have im:Pv o g5 (U p5 (H L) c5) L:=Ea kk.Yn bs hcc fun b hb=>⟨K2.Yn b (by have:=(hbl b hb).1;rw[cx]at this;omega),(hbl b hb).2⟩
        have ks:=dR kk.Yn im zA (fun b hb=>by have:=(hbl b hb).1;rw[cx]at this;omega) (ab [U p5 (H L) c5,W O Z].toArray 100);simp -implicitDefEqProofs only[go_sem,B5,PM,zA];exact⟨f0,f3,_,_,_,rfl,ZV xA,ks⟩)
   clear f0 f3 f7;rintro F3 g3 ⟨f0,f3,b3,kt,p3,c3,f8,yt,im3⟩;have TZ:=ZX K2.Yn b3;have K3:=K2.trans TZ;have A3:=A2.Zo TZ;have z3:=y3.Zf TZ;obtain⟨b,off,c,hn,hc5,hb,Kc⟩:=TM A3.wd;have R3:=XX A3.wd.ZZ.2;have Rn:=R3.Zb;rw[hn]at Rn;have Am:=Za A3.wd.ZZ.2;have q1:hc g3 ⟨h.size,1,Y⟩=X (W O a.ZS):=Zn z3.2;have l3:=Za z3.2;have rt:rd g3 ⟨kt,0,Y⟩ 2=X [U p3 (H L) c3,W O Z]:=Zy yt rfl;have lt:=Za yt;have cb:Zd a5 T 49 #[W O a.ZS,aN #[U p3 (H L) c3,W O Z],aN #[W O 0,W O 0,U Y 0 0]] g3 _:=F6 T g3 o wb a.ZS (U p3 (H L) c3) L Z (U Y 0 0) JN K3.Yn im3 (Im.nil _ _ _ _);refine VS.z (g3.size) [12] (.p 0 (.p 1 (.p 2 (.q 3 (.p 4 (.q 5 (.p 6 (.q 7 (.q 8 (.p 9 (.s 10 (.p 11 (.w 12 .nil))))))))))))) mixed vM ?_;simp -implicitDefEqProofs only[go_sem,f0,f3,f8,Rn,q1,rt,Am,l3,lt,hb,KT];refine cb.use ?_;rintro _ g4 ⟨nb,o4,a4,rfl,b4,k4,N4⟩;have W4:=A3.wd.Zf k4 (by rintro t (rfl|rfl)<;>simp[Tg.of]);obtain⟨b',ZwA,c',g5,NY,w5,k5,W5⟩:=Cs k4.Yn W4 a.ZS nb hi;rw[hn]at NY;simp only[Value.slice.injEq,Option.some.injEq,Addr.mk.injEq,true_and,and_true]at NY;obtain⟨⟨rfl,rfl⟩,rfl⟩:=NY;have hb4:b<g4.size:=bd hb b4.size;have N5:=N4.Zf k5 (by rintro t rfl e;cases e);have K5:Kp S3 o h o4 g5:=((YS K3).trans (YS k4)).trans (YS k5);have z5:=(z3.Zf k4).Zf k5;unfold Zz at w5 ⊢;simp -implicitDefEqProofs only[go_sem,b4,w5,hb4,KT];have R5:=XX W5.ZZ.2;have R5n:=R5.Zb;rw[hn]at R5n;obtain⟨b'',ZBS,c'',Ziy,_,hb5,ZwB⟩:=TM W5;rw[hn]at Ziy;simp only[Value.slice.injEq,Option.some.injEq,Addr.mk.injEq,true_and,and_true]at Ziy;obtain⟨⟨rfl,rfl⟩,rfl⟩:=Ziy;have ri5:=ZwB a.ZS hi;simp only[↓reduceIte]at ri5;unfold Zz at ri5;have kh:=Za W5.ZZ.2;have q15:hc g5 ⟨h.size,1,Y⟩=X (W O a.ZS):=Zn z5.2;have l35:=Za z5.2;have MI:=Za N5.ZZ.2;obtain⟨g6,w6,N6,k6⟩:=Yi.write (n:={ Yu a.ZS true L Z JN with up:=false }) (a:=a4) { N5.pt with } K5.Yn N5.ZZ ((XM N5.ZZ.2 N5.pt.store.len).up false);refine VS.z (g5.size) [10] (.p 0 (.p 1 (.p 2 (.q 3 (.p 4 (.q 5 (.p 6 (.q 7 (.p 8 (.p 9 (.w 10 .nil))))))))))) mixed vM ?_;simp -implicitDefEqProofs only[go_sem,f0,f3,R5n,q15,kh,l35,hb5,KT,ri5,MI,w6];have kk:Kp (fun t=>t=.Zb\/t.of=X a.ZS) o g3 o4 g6:=((k4.mono fun t q=>by rcases q with rfl|rfl<;>exact .inr rfl).trans (k5.mono fun t q=>.inl q)).trans (k6.mono fun t q=>.inr (by rw[q];rfl));exact⟨o4,Xw,_,K5.trans (YS k6),A3.fresh kk N6 (W5.Zf k6 (by rintro t rfl;simp[Tg.of]))⟩
 ·-- a start
  have ea:act w a=w.set a.ZS (started a.ZS (w.Zb a.ZS)):=by unfold act;rw[if_neg pA,if_neg pA,if_neg pA,if_neg pA,if_neg pA,if_neg pA]
  rw[ea];rw[e]at q0;obtain⟨n,DK⟩:=ZL (w.Zb a.ZS);have Zix:=ok.data _ hi;rw[<-DK]at N1 Zix;simp -implicitDefEqProofs only[go_sem,e0,q0];refine VS.mono (N:=fun F' g'=>Zj h1.size h1 g'/\F' 0=aD (X ⟨wb,0,Y⟩)/\F' 3=aD (X ⟨h.size,0,Y⟩)/\F' 10=aD (X ⟨YN a.ZS,0,Y⟩)) ?_ ?_ (fun _ _ _ h=>h) (fun _ _ h=>h)
  .refine VS.z (h1.size) [] (.p 0 (.p 1 (.p 2 (.q 3 (.p 4 (.q 5 (.p 6 (.q 7 (.p 8 .nil))))))))) mixed vM ?_;simp -implicitDefEqProofs only[go_sem,Rn,q1,Am,l3,hb,KT,ri]
   try exact Zj.refl _ _
  rintro F2 g2 ⟨b2,f0,f3,f10⟩;have NM:=ZX k1.Yn b2;have A2:=A1.Zo NM;have N2:=N1.Zo NM;have K2:=k1.trans NM;have iO:=tb1.Zf NM;have y3:=x3.Zf NM;have P2:=ZR N2.ZZ.2 N2.pt.store.len;have nV:=P2.up;have Us:=Za N2.ZZ.2
  cases hu:n.up with
  | true=>
   rw[hu]at nV;have e1:started a.ZS (w.Zb a.ZS)=w.Zb a.ZS:=by unfold started;rw[<-DK,if_pos hu]
   rw[e1,dQ];simp -implicitDefEqProofs only[go_sem,f10,nV];exact⟨o,Xw,YN,YS K2,A2⟩
  | false=>
   rw[hu]at nV;obtain⟨pt,ct,vJ,hct⟩:=N2.pt.data.1.fits;have vJ:na.data=U pt (H n.data) ct:=vJ;have P2t:=P2.tape;rw[vJ]at P2t;have ND:=N2.pt.data;rw[vJ]at ND;obtain⟨D,hD⟩:=ZL (FO n.data n.Y4);obtain⟨Z,hZ⟩:=ZL (jW n.data n.Y4);obtain⟨Sb,Zny⟩:=ZL (if Y0 D Z then (TJ D).1 else JN);have es:started a.ZS (w.Zb a.ZS)=Yu a.ZS true D Z Sb:=by unfold started;rw[<-DK,if_neg (by rw[hu];simp),Zny,hD,hZ]
   rw[es];have hDl:(H D)<=1000000:=by
    rw[hD];unfold FO;split
    .rw[a1];omega
    .simp
   simp -implicitDefEqProofs only[go_sem,f10,nV,P2t];refine (sH T g2 _ n.Y4 n.data ND.bs hct pA iO.tk).use ?_;rintro v3 g3 ⟨R3,b3⟩;obtain⟨p3,c3,E3,rfl,o3⟩:∃p c E,v3=.tuple [aN [U p (H D) c,W O Z].toArray,W O E].toArray/\YB g2.size 5 g3 (U p (H D) c) D:=by
    obtain⟨r,k,E,w',rfl,ob,hk,hr⟩:=R3;have h1:(if E=0 then n.data.take k else [])=D:=by
     rw[hD];unfold FO;split at hr
     .rename_i q;rw[if_pos hr.1,if_pos q,Nt hr.2]
     .rename_i q;rw[if_neg (show ¬E=0 by omega),if_neg q]
    have h2:(if E=0 then (if (k:Int)<n.Y4 then (k:Int) else n.Y4) else 0)=Z:=by
     rw[hZ];unfold jW;split at hr
     .rename_i q;rw[if_pos hr.1,if_pos q,Nt hr.2]
     .rename_i q;rw[if_neg (show ¬E=0 by omega),if_neg q]
    rw[h1]at ob;rw[h2];obtain⟨p,c,rfl,_⟩:=ob.open;exact⟨p,c,E,rfl,ob⟩
   have TZ:=ZX K2.Yn b3;obtain⟨g4,HW⟩:=ZL (g3.push (ab [U p3 (H D) c3,W O Z].toArray 100):Hp);have k4:Kp Wy o g2 o g4:=by rw[HW];exact TZ.push _
   have x11:Yb o g4 g3.size (ab [U p3 (H D) c3,W O Z].toArray 100):=⟨TZ.Yn _ (am _),by rw[HW];exact Zc⟩
   have e4:=HW.symm;have iD4:Pv o g4 (U p3 (H D) c3) D:=by rw[HW];exact Pv.Zf ⟨Im.WS o3.Zq (fun b hb=>K2.Yn b hb),o3.byte⟩ (Yw TZ.Yn _)
   have r11:rd g4 ⟨g3.size,0,Y⟩ 2=X [U p3 (H D) c3,W O Z]:=Zy x11.2 rfl;have tb4:=iO.Zf k4;simp -implicitDefEqProofs only[go_sem,e4,r11];refine (FL T g4 _ Z D iD4.bs pA tb4.tk).use ?_;rintro v5 g5 ⟨R5,b5⟩;obtain⟨p5,c5,E5,K5',rfl,o5⟩:∃p c E K,v5=.tuple [aN [W O Sb.p.r,W O Sb.p.n,U p (H Sb.l) c].toArray,W O K,W O E].toArray/\TY o g5 (U p (H Sb.l) c) Sb.l:=by
    obtain⟨r,k,E,w',rfl,ob,hk,_,hr⟩:=R5;have h1:r=Sb:=by
     rw[Zny];split at hr
     .rw[if_pos aac,Nt hr.2]
     .rw[if_neg aac];exact hr.2.1
    rw[h1]at ob ⊢;have im:TY o g5 w' Sb.l:=Im.WS ob.Zq (fun b hb=>k4.Yn b hb);obtain⟨p,c,rfl⟩:=im.ZP;exact⟨p,c,E,_,rfl,im⟩
   have Ck:=ZX k4.Yn b5;obtain⟨g6,NN⟩:=ZL (g5.push (ab [W O Sb.p.r,W O Sb.p.n,U p5 (H Sb.l) c5].toArray 105):Hp);have k6:Kp Wy o g4 o g6:=by rw[NN];exact Ck.push _
   have x13:Yb o g6 g5.size (ab [W O Sb.p.r,W O Sb.p.n,U p5 (H Sb.l) c5].toArray 105):=⟨Ck.Yn _ (am _),by rw[NN];exact Zc⟩
   have e6:=NN.symm;have K6:Kp Wy o h o g6:=(K2.trans k4).trans k6;have iD6:=iD4.Zf k6;have iV6:TY o g6 (U p5 (H Sb.l) c5) Sb.l:=by rw[NN];exact o5.Zf (Yw Ck.Yn _)
   have A6:=(A2.Zo k4).Zo k6;have z3:=(y3.Zf k4).Zf k6;have z11:=x11.Zf k6;clear hn hc5 hb Kc Rn Am q1 l3 ri;obtain⟨b,off,c,hn,hc5,hb,Kc⟩:=TM A6.wd;have R6:=XX A6.wd.ZZ.2;have Rn:=R6.Zb;rw[hn]at Rn;have Am:=Za A6.wd.ZZ.2;have q1:hc g6 ⟨h.size,1,Y⟩=X (W O a.ZS):=Zn z3.2;have l3:=Za z3.2;have rt:rd g6 ⟨g3.size,0,Y⟩ 2=X [U p3 (H D) c3,W O Z]:=Zy z11.2 rfl;have lt:=Za z11.2;have ra:rd g6 ⟨g5.size,0,Y⟩ 3=X [W O Sb.p.r,W O Sb.p.n,U p5 (H Sb.l) c5]:=Zy x13.2 rfl;have la:=Za x13.2;have cb:=F6 T g6 o wb a.ZS (U p3 (H D) c3) D Z (U p5 (H Sb.l) c5) Sb K6.Yn iD6 iV6;simp -implicitDefEqProofs only[go_sem,e6];refine VS.z (g6.size) [12] (.p 0 (.p 1 (.p 2 (.q 3 (.p 4 (.q 5 (.p 6 (.q 7 (.q 8 (.q 9 (.s 10 (.p 11 (.w 12 .nil))))))))))))) mixed vM ?_;simp -implicitDefEqProofs only[go_sem,f0,f3,Rn,q1,rt,ra,Am,l3,lt,la,hb,KT];refine cb.use ?_;rintro _ g7 ⟨nb,o7,a7,rfl,b7,k7,N7⟩;have W7:=A6.wd.Zf k7 (by rintro t (rfl|rfl)<;>simp[Tg.of]);obtain⟨b',ZwA,c',g8,NY,w8,k8,W8⟩:=Cs k7.Yn W7 a.ZS nb hi;rw[hn]at NY;simp only[Value.slice.injEq,Option.some.injEq,Addr.mk.injEq,true_and,and_true]at NY;obtain⟨⟨rfl,rfl⟩,rfl⟩:=NY;have hb7:b<g7.size:=bd hb b7.size;have N8:=N7.Zf k8 (by rintro t rfl e;cases e);have K8:Kp S3 o h o7 g8:=((YS K6).trans (YS k7)).trans (YS k8);unfold Zz at w8 ⊢;simp -implicitDefEqProofs only[go_sem,b7,w8,hb7,KT];have kk:Kp (fun t=>t=.Zb\/t.of=X a.ZS) o g6 o7 g8:=(k7.mono fun t q=>by rcases q with rfl|rfl<;>exact .inr rfl).trans (k8.mono fun t q=>.inl q);exact⟨o7,Xw,_,K8,A6.fresh kk N8 W8⟩
def Ee(YN:Nat->Nat)(j:Nat):List ae:=(cB j).map fun i=>Zz (YN i)
theorem kw(YN:Nat->Nat)(j:Nat):Ee YN (j+1)=Ee YN j++[Zz (YN j)]:=by
 unfold Ee;rw[cy,cz];rfl
theorem kA(YN:Nat->Nat)(j nb:Nat):Ee (fun i=>if i=j then nb else YN i) j=Ee YN j:=by
 unfold Ee;apply List.map_congr_left;intro i hi;rw[bf]at hi;simp only;rw[if_neg pA]
set_option maxHeartbeats 4000000 in
theorem Za4(T:bz)(h:Hp)(o:Ow)(d:Vz o h):
  Zd a5 T 36 #[] h fun v' h'=>∃wb YN o' Xw,v'=Zz wb/\Kp S3 o h o' h'/\QM o' h' wb YN Xw QT:=by
 refine Zd.XS [] Tryz.func36 ?_;obtain⟨wb,Ziz⟩:=ZL (h.size);obtain⟨g1,Mc⟩:∃g1:Hp,g1=h.push (ab (Jd (fun _=>0) ⟨U Y 0 0,U Y 0 0,U Y 0 0⟩).toArray 97):=⟨_,rfl⟩
 have e1:=Mc.symm;unfold Jd at e1;simp only at e1;have k1:Kp S3 o h (QZ o wb .world) g1:=by rw[Mc,Ziz];exact ((Kp.refl d S3).push _).Ol (am _) IQ trivial
 have B1:WF (QZ o wb .world) .world g1 wb (ab (Jd (fun _=>0) ⟨U Y 0 0,U Y 0 0,U Y 0 0⟩).toArray 97):=⟨X2,by rw[Mc,Ziz];exact Zc⟩
 simp -implicitDefEqProofs only[go_sem,e1];rw[<-Ziz];refine VS.Yk (fun F g=>F 1=aD (X ⟨wb,0,Y⟩)/\∃(j:Nat) (o':Ow) (YN:Nat->Nat) (v:ae),j<=5/\F 5=W O j/\Kp S3 o h o' g/\WF o' .world g wb (ab (Jd (fun _=>0) ⟨v,U Y 0 0,U Y 0 0⟩).toArray 97)/\XB o' .Zb 98 1 g v j (Ee YN j)/\∀i,i<j->∃a,Z6 o' g wb i (YN i) a (Yu i true [] 0 JN))
  (fun F _=>5-(vi (F 5)).toNat) rfl ⟨rfl,0,_,fun _=>0,U Y 0 0,pA,rfl,k1,B1,XB.nil _ _ _ _ _,fun i hi=>by omega⟩ ?_
 clear B1 k1 e1 Mc;rintro F2 g2 ⟨f1,j,o2,YN,v,hj,f5,K2,B2,O2,N2⟩;by_cases ZT:j<5
 .have Z7:(j:Int)<5:=pA;obtain⟨pv,cv,rfl,_⟩:=O2.ZP;have R2:=XX B2.2;have Rn:=R2.Zb;simp only at Rn;have Am:=Za B2.2;have cb:Zd a5 T 49 #[W O j,aN #[U Y 0 0,W O 0],aN #[W O 0,W O 0,U Y 0 0]] g2 _:=F6 T g2 o2 wb j (U Y 0 0) [] 0 (U Y 0 0) JN K2.Yn ⟨Im.nil _ _ _ _,fun x hx=>by cases hx⟩ (Im.nil _ _ _ _);simp -implicitDefEqProofs only[go_sem,f1,f5,Z7];refine VS.z (g2.size) [10,13] (.p 0 (.p 1 (.p 2 (.p 3 (.q 4 (.p 5 (.p 6 (.p 7 (.s 8 (.s 9 (.w 10 (.p 11 (.p 12 (.w 13 .nil)))))))))))))) mixed vM ?_;simp -implicitDefEqProofs only[go_sem,f1,f5,Rn,Am];refine cb.use ?_;rintro _ g3 ⟨nb,o3,a3,rfl,b3,k3,N3⟩;unfold Zz;simp -implicitDefEqProofs only[go_sem,b3];obtain⟨g4,HW⟩:=ZL (g3.push (ab [Zz nb].toArray 98):Hp);have e4:=HW.symm;unfold Zz at e4;rw[e4];have k4:Kp Wy o3 g3 o3 g4:=by rw[HW];exact Yw k3.Yn _
  have B4:=(B2.Zf k3 (by rintro (e|e)<;>cases e)).Zf k4 (fun q=>q);have O4:=(O2.Zf k3 (by rintro (e|e)<;>cases e)).Zf k4 (fun q=>q);have N4:=N3.Zo k4;have M4:∀i,i<j->∃a,Z6 o3 g4 wb i (YN i) a (Yu i true [] 0 JN):=fun i hi=>by
   obtain⟨a,N⟩:=N2 i hi;refine⟨a,(N.Zf k3 ?_).Zo k4⟩;rintro t (rfl|rfl) e
   .have:=Option.some.inj e;omega
   .have:=Option.some.inj e;omega
  have x4:g4[g3.size]? = X (ab [Zz nb].toArray 98):=by rw[HW];exact Zc
  have src:Sl 1 g4 (U (X ⟨g3.size,0,Y⟩) 1 1) 1 [Zz nb]:=⟨_,1,rfl,rfl,fun _=>⟨g3.size,0,rfl,fun i hi=>by
   rw[Zn x4,YU,Nat.zero_add];exact bG hi⟩⟩
  refine Q8 (E:=98) (n:=1) (bytes:=8) (k:=1) Zlg Tryz.underlying94 ZsV ZsX rfl ZsW O4 k4.Yn src rfl pA pA ?_;intro v' o5 g5 O5 k5 _;have k5:Kp (fun u=>u=.Zb) o3 g4 o5 g5:=k5;obtain⟨p5,c5,rfl,_⟩:=O5.ZP;have B5:=B4.Zf k5 Va;have w5:=(XX B5.2).Zh1 (U p5 (j+1) c5) rfl;have kh:=Za B5.2;obtain⟨g6,NN⟩:∃g6,g6=g5.setIfInBounds wb (ab (Jd (fun _=>0) ⟨U p5 (j+1) c5,U Y 0 0,U Y 0 0⟩).toArray 97):=⟨_,rfl⟩
  simp only at w5;rw[<-NN]at w5;have k6:Kp (fun t=>t=.world) o5 g5 o5 g6:=by rw[NN];exact (Kp.refl k5.Yn (fun t=>t=.world)).set B5.1 rfl _
  have B6:WF o5 .world g6 wb (ab (Jd (fun _=>0) ⟨U p5 (j+1) c5,U Y 0 0,U Y 0 0⟩).toArray 97):=⟨B5.1,by rw[NN];exact ZV B5.2⟩
  have K6:Kp S3 o h o5 g6:=(((K2.trans (YS k3)).trans (YS k4)).trans (YS k5)).trans (YS k6);simp -implicitDefEqProofs only[go_sem,w5,kh,f5];unfold XN;refine⟨⟨f1,j+1,o5,(fun i=>if i=j then nb else YN i),U p5 (j+1) c5,ZT,rfl,K6,B6,?_,fun i hi=>?_⟩,?_⟩
  .rw[kw,kA];simp only[↓reduceIte];exact O5.Zf k6 Va
  .by_cases e:i=j
   .subst e;refine⟨a3,?_⟩;simp only[↓reduceIte];exact (N4.Zf k5 (by rintro t rfl e;cases e)).Zf k6 (by rintro t rfl e;cases e)
   .obtain⟨a,N⟩:=M4 i pA;refine⟨a,?_⟩;simp only[if_neg e];exact (N.Zf k5 (by rintro t rfl e;cases e)).Zf k6 (by rintro t rfl e;cases e)
  .simp only[vi,Zr,↓reduceIte,f5];omega
 .have Xv:¬(j:Int)<5:=pA;obtain rfl:j=5:=pA;simp -implicitDefEqProofs only[go_sem,f1,f5,Xv];exact⟨wb,YN,o2,_,rfl,K2,⟨B2,O2,⟨[],rfl,XB.nil _ _ _ _ _,fun x hx=>by cases hx⟩,XB.nil _ _ _ _ _⟩,fun i hi=>N2 i hi⟩
theorem kC(T:bz)(h:Hp)(u:ae)(l:List Cm)(s:Ts JZ.C 5 h u l)(hl:(H l)<=2199023255552):
  Zd a5 T 38 #[u] h fun v' h'=>QF h.size 25 JZ.C 5 h' v' l/\Zj h.size h h':=by
 obtain⟨p,c,rfl,WB⟩:=Qp s;refine Zd.XS [_] Tryz.func38 ?_
 cases p with
 | none=>
  have:l=[]:=by
   cases l with
   | nil=>rfl
   | cons x l=>obtain⟨b,o,hp,_⟩:=WB IQ;cases hp
  subst this;simp -implicitDefEqProofs only[go_sem];exact QF.nil _ _ _ _ _
 | some a=>
  simp -implicitDefEqProofs only[go_sem];refine Rj (E:=25) (B:=h.size) (n:=5) (bytes:=40) aV Tryz.underlying46 ZgZ yu rfl Zk9 (fun _=>rfl) (QF.EX _ _ JZ.C 5 _ _) IQ (s.Yz (Zj.push (am _) _)) VL pA ?_;intro v' h' ho hb _;simp -implicitDefEqProofs only[go_sem];exact⟨by simpa using ho,(Zj.push (am _) _).trans hb⟩
structure Raw where
 k:Int
 n:Int
 a:Int
 b:Int
 data:List Nat
def Raw.ac(x:Raw):Ac:=⟨x.k,x.n.toNat,x.a.toNat,x.b,x.data⟩
def Raw.err(x:Raw):Int:=Wj x.k x.n x.a x.b (H x.data)
def We(x:Raw × ae):List ae:=F9 x.1.k x.1.n x.1.a x.1.b x.2
def Ut:List Raw->Int
 | []=>0
 | x :: l=>if x.err≠0 then x.err else Ut l
def S5(l:List Raw):Int:=if 100000<(H l) then 1 else Ut l
theorem Ef(x:Raw × ae):(We x).length=5:=rfl
theorem Eg{l:List Raw}{j:Nat}(hj:j<(H l))(h0:∀x∈l.take j,x.err=0)(h1:l[j].err≠0):Ut l=l[j].err:=by
 induction l generalizing j with
 | nil=>simp at hj
 | cons y l ih=>
  cases j with
  | zero=>unfold Ut;rw[if_pos (by simpa using h1)];rfl
  | succ j=>
   unfold Ut;rw[if_neg (by simpa using h0 y IQ)];exact ih (by simpa using hj) (fun x hx=>h0 x (by simp[hx])) (by simpa using h1)
theorem OR{l:List Raw}(h0:∀x∈l,x.err=0):Ut l=0:=by
 induction l with
 | nil=>rfl
 | cons y l ih=>unfold Ut;rw[if_neg (by simpa using h0 y IQ)];exact ih fun x hx=>h0 x (by simp[hx])
theorem Eh{x:Raw}(h:x.err=0):(1<=x.k/\x.k<=9)/\(0<=x.n/\x.n<=4)/\(0<=x.a/\x.a<=1048576)/\(0<=x.b/\x.b<=100000)/\(H x.data)<=2000:=by
 unfold Raw.err Wj at h;by_cases c1:1<=x.k/\x.k<=9
 case neg=>rw[if_pos c1]at h;cases h
 rw[if_neg (by simpa using c1)]at h;by_cases c2:(Jn x.k/\¬(0<=x.n/\x.n<=4))\/(U2 x.k/\¬(0<=x.a/\x.a<=1048576))\/(x.k=8/\¬(0<=x.b/\x.b<=100000))
 .rw[if_pos c2]at h;cases h
 rw[if_neg c2]at h;by_cases c3:2000<(H x.data)
 .rw[if_pos c3]at h;cases h
 rw[if_neg c3]at h;by_cases c4:(¬Jn x.k/\x.n≠0)\/(¬U2 x.k/\x.a≠0)\/(x.k≠8/\x.b≠0)\/(x.k≠1/\0<(H x.data))
 .rw[if_pos c4]at h;cases h
 refine⟨c1,?_,?_,?_,pA⟩
 .by_cases q:Jn x.k
  .exact aw fun e=>c2 (.inl ⟨q,e⟩)
  .have:x.n=0:=aw fun e=>c4 (.inl ⟨q,e⟩);omega
 .by_cases q:U2 x.k
  .exact aw fun e=>c2 (.inr (.inl ⟨q,e⟩))
  .have:x.a=0:=aw fun e=>c4 (.inr (.inl ⟨q,e⟩));omega
 .by_cases q:x.k=8
  .exact aw fun e=>c2 (.inr (.inr ⟨q,e⟩))
  .have:x.b=0:=aw fun e=>c4 (.inr (.inr (.inl ⟨q,e⟩)));omega
def Xh(xs:List (Raw × ae)):List Raw:=xs.map (·.1)
def Nx:Ow:=fun _=>Y
theorem MM(h:Hp):Vz Nx h:=fun _ _=>rfl
theorem At{S:Tg->Prop}{h h':Hp}{o':Ow}(k:Kp S Nx h o' h'):Zj h.size h h':=
 ⟨k.size,fun b hb=>(k.Zf b hb fun t ht=>by cases ht).1⟩
def vK:List ae:=[W O 0,ag false,ag false,ag false,ag false,ag false,U Y 0 0,W O 0,W O 0,W O 0,W O 0,W O 0,U Y 0 0]
def gm(w:Wd)(lv tv:ae):List ae:=[W O w.Zp.length,ag (w.Zb 0).up,ag (w.Zb 1).up,ag (w.Zb 2).up,ag (w.Zb 3).up,ag (w.Zb 4).up,lv,W O (w.Yy 0),W O (w.Yy 1),W O (w.Yy 2),W O (w.Yy 3),W O (w.Yy 4),tv]
structure kD(h:Hp)(R:List ae)(w:Wd)(lv tv:ae)(vs:List ae):Prop where
 cells:R=gm w lv tv
 Znz:Ts (fun v=>[v]) 1 h lv vs
 each:aT (fun v l=>Ts JZ.C 5 h v l) vs [(w.Zb 0).ZA,(w.Zb 1).ZA,(w.Zb 2).ZA,(w.Zb 3).ZA,(w.Zb 4).ZA]
 ZE:Ts FQ 5 h tv w.ZE
 ZJD:aT (fun v (l:List Cm)=>∃p c,v=U p (H l) c/\(H l)<=c) vs [(w.Zb 0).ZA,(w.Zb 1).ZA,(w.Zb 2).ZA,(w.Zb 3).ZA,(w.Zb 4).ZA]
def VI(B:Nat)(h:Hp)(R:List ae)(w:Wd)(lv tv:ae)(vs:List ae):Prop:=∀G:Hp,(∀b,B<=b->b<h.size->G[b]? = h[b]?)->kD G R w lv tv vs
theorem VI.at{B:Nat}{h:Hp}{R:List ae}{w:Wd}{lv tv:ae}{vs:List ae}(s:VI B h R w lv tv vs):kD h R w lv tv vs:=s h fun _ _ _=>rfl
theorem VI.Yz{B:Nat}{h h':Hp}{R:List ae}{w:Wd}{lv tv:ae}{vs:List ae}(s:VI B h R w lv tv vs)(b:Zj h.size h h'):VI B h' R w lv tv vs:=
 fun G hG=>s G fun k h1 h2=>by rw[hG k h1 (bd h2 b.size)];exact b.block k h2
theorem VI.set{B:Nat}{h:Hp}{R:List ae}{w:Wd}{lv tv:ae}{vs:List ae}(s:VI B h R w lv tv vs)(hk:k<B)(x:Obj):VI B (h.setIfInBounds k x) R w lv tv vs:=
 fun G hG=>s G fun b h1 h2=>by rw[hG b h1 (by simpa using h2),bo,if_neg pA]
def Cv(B:Nat)(h':Hp)(v':ae)(l:List Raw):Prop:=
 if S5 l=0 then ∃R lv tv vs,v'=.tuple #[aN R.toArray,W O 0]/\VI B h' R (TK (l.map Raw.ac)) lv tv vs
 else v'=.tuple #[aN vK.toArray,W O (S5 l)]
theorem Cw{h:Hp}{v:ae}{l:List (Raw × ae)}(s:Ts We 5 h v l):∃p c,v=U p (H l) c/\(l≠[]->∃b o,p=X ⟨b,o,Y⟩/\b<h.size/\∀i (hi:i<(H l)),rd h ⟨b,o+i*5,Y⟩ 5=X (We l[i])):=by
 obtain⟨p,c,hv,hh⟩:=s.open Ef aaa;refine⟨p,c,hv,fun Y7=>?_⟩;obtain⟨b,o,h1,h2,h3⟩:=hh Y7;exact⟨b,o,h1,h2,fun i hi=>(h3 i hi).rd (by simp[We,F9]) rfl⟩
def dW(w:Wd)(j:Nat)(lv tv:ae):List ae:=[W O w.Zp.length,ag (if 0<j then (w.Zb 0).up else false),ag (if 1<j then (w.Zb 1).up else false),ag (if 2<j then (w.Zb 2).up else false),ag (if 3<j then (w.Zb 3).up else false),ag (if 4<j then (w.Zb 4).up else false),lv,W O (w.Yy 0),W O (w.Yy 1),W O (w.Yy 2),W O (w.Yy 3),W O (w.Yy 4),tv]
theorem oB(w:Wd)(j:Nat)(lv tv:ae):(dW w j lv tv).length=13:=rfl
theorem ZiA(w:Wd)(j:Nat)(lv tv:ae)(hj:j<5):(dW w j lv tv).set (1+j) (ag (w.Zb j).up)=dW w (j+1) lv tv:=by
 match j,hj with
 | 0,_=>rfl
 | 1,_=>rfl
 | 2,_=>rfl
 | 3,_=>rfl
 | 4,_=>rfl
theorem ZeD(w:Wd)(j:Nat)(lv lv' tv:ae):(dW w j lv tv).set 6 lv'=dW w j lv' tv:=rfl
def Ik(w:Wd)(j:Nat):List (List Cm):=(cB j).map fun i=>(w.Zb i).ZA
theorem dX(w:Wd)(j:Nat):Ik w (j+1)=Ik w j++[(w.Zb j).ZA]:=by
 unfold Ik;rw[cy,cz];rfl
def kE(t:Tg):Prop:=t=.ZA 100\/t=.ZA 101
theorem Kg{α β:Type}{R R':α->β->Prop}{l:List α}{k:List β}(s:aT R l k)(h:∀x y,R x y->R' x y):aT R' l k:=by
 induction s with
 | nil=>exact .nil
 | cons a _ ih=>exact .cons (h _ _ a) ih
theorem tW(l:List ae):ZU (fun v=>[v]) l=l:=by
 induction l with
 | nil=>rfl
 | cons x l ih=>
  have:ZU (fun v=>[v]) (x :: l)=[x]++ZU (fun v=>[v]) l:=by simp[ZU]
  rw[this,ih];rfl
theorem oC{o:Ow}{t:Tg}{E:TypeId}{n m:Nat}{h G:Hp}{v:ae}{cs:List ae}(s:XB o t E n h v m cs)(hG:∀b,o b=X t->b<h.size->G[b]? = h[b]?):XB o t E n G v m cs:=by
 rcases s with s|⟨b',j,cap,pre,ZG,h1,rfl,h3,h4,h5,h6,h7⟩
 .exact .inl s
 .exact .inr ⟨b',j,cap,pre,ZG,h1,rfl,by rw[hG b' h1 (Za h3)];exact h3,h4,h5,h6,h7⟩
theorem ZnA{o:Ow}{n m:Nat}{h G:Hp}{v:ae}{cs:List ae}(s:Im o n h v m cs)(hG:∀b,Yf v=X b->b<h.size->G[b]? = h[b]?):Sl n G v m cs:=by
 obtain⟨⟨p,c,rfl,hl,hcc⟩,⟨p',c',he,hm⟩,hf⟩:=s;simp only[Value.slice.injEq,true_and]at he;obtain⟨rfl,rfl⟩:=he;refine⟨p,c,rfl,hl,fun Y7=>?_⟩;obtain⟨b,off,rfl,XL⟩:=hcc Y7;have mE:c≠0:=by
  intro e;have:m=0:=pA;rw[this,Nat.zero_mul]at hl;exact Y7 (List.eq_nil_of_length_eq_zero hl)
 have hb:Yf (U (X ⟨b,off,Y⟩) m c)=X b:=by unfold Yf;simp only;rw[if_neg mE]
 refine⟨b,off,rfl,fun i hi=>?_⟩;have h1:=XL i hi;have h2:=hG b hb (hf b hb).1;unfold V.hc at h1 ⊢;rw[h2];exact h1
theorem Za5{S:Tg->Prop}{h h':Hp}{o':Ow}{t:Tg}{b:Nat}(k:Kp S Nx h o' h')(hb:o' b=X t):h.size<=b:=by
 refine aw fun q=>?_;obtain⟨_,h2⟩:=k.Zf b pA (fun t ht=>by cases ht);rw[hb]at h2;cases h2
set_option maxHeartbeats 8000000 in
theorem ZeE(T:bz)(h:Hp)(v:ae)(xs:List (Raw × ae))(hv:Ts We 5 h v xs)(hx:∀x∈xs,Pv Nx h x.2 x.1.data)(tb:dp Nx h)(BT:xs.length<=4611686018427387904)(inv:(∀x∈Xh xs,x.err=0)->xs.length<=100000->∀j,j<=xs.length->WOk (TK (((Xh xs).take j).map Raw.ac))):
  Zd a5 T 19 #[v] h fun v' h'=>Zj h.size h h'/\Cv h.size h' v' (Xh xs):=by
 obtain⟨p,c,rfl,XL⟩:=Cw hv;refine Zd.Lt [_] Tryz.func19 ?_;obtain⟨h1,Xp⟩:=ZL (h.push (.cells vK.toArray 42):Hp);have e1:=Xp.symm;unfold vK at e1;have b1:Zj h.size h h1:=by rw[Xp];exact Zj.push (am _) _
 have s1:h1.size=h.size+1:=by rw[Xp];simp
 have x2:h1[h.size]? = X (.cells vK.toArray 42):=by rw[Xp];exact Zc
 have rl:(Xh xs).length=xs.length:=by unfold Xh;simp
 have rz:∀G:Hp,Zj h1.size h1 G->G[h.size]? = X (.cells vK.toArray 42):=fun G hG=>hG.get pA x2;have wz:∀G:Hp,Zj h1.size h1 G->wr G ⟨h.size,0,Y⟩ [.int .i64 0,.bool false,.bool false,.bool false,.bool false,.bool false,.slice Y 0 0,.int .i64 0,.int .i64 0,.int .i64 0,.int .i64 0,.int .i64 0,.slice Y 0 0]=X G:=fun G hG=>by
  rw[Ye (rz G hG) 0 _];have:(G.setIfInBounds h.size (.cells (Xd vK 0 [.int .i64 0,.bool false,.bool false,.bool false,.bool false,.bool false,.slice Y 0 0,.int .i64 0,.int .i64 0,.int .i64 0,.int .i64 0,.int .i64 0,.slice Y 0 0]).toArray 42))=G:=Fs (rz G hG);rw[if_pos ⟨by simp[vK],rfl⟩];exact congrArg X this
 have rr:∀G:Hp,Zj h1.size h1 G->rd G ⟨h.size,0,Y⟩ 13=X [.int .i64 0,.bool false,.bool false,.bool false,.bool false,.bool false,.slice Y 0 0,.int .i64 0,.int .i64 0,.int .i64 0,.int .i64 0,.int .i64 0,.slice Y 0 0]:=fun G hG=>Zy (rz G hG) rfl;have w0:=wz h1 (Zj.refl _ _);have r0:=rr h1 (Zj.refl _ _);have l0:=Za x2;by_cases Zgq:100000<xs.length
 .have Za6:(xs.length:Int)>100000:=pA;have e2:S5 (Xh xs)=1:=by unfold S5;rw[rl,if_pos Zgq]
  simp -implicitDefEqProofs only[go_sem,e1,Za6,w0,r0];refine⟨b1,?_⟩;unfold Cv;rw[e2,if_neg aaa];rfl
 have Za6:¬(xs.length:Int)>100000:=pA;have ZiB:xs.length<=100000:=pA;have e2:S5 (Xh xs)=Ut (Xh xs):=by unfold S5;rw[rl,if_neg Zgq]
 have Au:∀i (hi:i<xs.length),(Xh xs)[i]'(by rw[rl];exact hi)=xs[i].1:=fun i hi=>by unfold Xh;simp
 simp -implicitDefEqProofs only[go_sem,e1,Za6];refine VS.Yk (fun F g=>F 0=.slice p xs.length c/\F 2=.pointer (X ⟨h.size,0,Y⟩)/\F 17=.slice p xs.length c/\F 18=.int .i64 xs.length/\Zj h1.size h1 g/\∃j:Nat,j<=xs.length/\F 19=.int .i64 j/\∀x∈(Xh xs).take j,x.err=0)
  (fun F _=>xs.length-(vi (F 19)).toNat) rfl ⟨rfl,rfl,rfl,rfl,Zj.refl _ _,0,bA _,rfl,fun x hx=>by simp at hx⟩ ?_
 rintro F2 g2 ⟨f0,f2,f17,f18,b2,j,hj,f19,hz⟩;by_cases ZT:j<xs.length
 .have Z7:(j:Int)<xs.length:=pA;obtain⟨bb,oo,rfl,TC,Kc⟩:=XL (by intro e;rw[e]at ZT;simp at ZT);obtain⟨x,P9⟩:=ZL (xs[j]);have hxm:x∈xs:=by rw[P9];exact b6 ZT
  have iv:=hx x hxm;obtain⟨pd,cd,Oc⟩:=iv.1.ZP;have r1:rd g2 ⟨bb,oo+j*5,Y⟩ 5=X (We x):=by rw[Q3 (b1.trans (b2.mono pA)) TC,P9];exact Kc j ZT
  unfold We F9 at r1;rw[Oc]at r1;obtain⟨g3,hg3⟩:=ZL (g2.push (.cells (F9 x.1.k x.1.n x.1.a x.1.b (.slice pd x.1.data.length cd)).toArray 36):Hp);have e3:=hg3.symm;have y3:g3[g2.size]? = X (.cells (F9 x.1.k x.1.n x.1.a x.1.b (.slice pd x.1.data.length cd)).toArray 36):=by rw[hg3];exact Zc
  have r3:rd g3 ⟨g2.size,0,Y⟩ 5=X (F9 x.1.k x.1.n x.1.a x.1.b (.slice pd x.1.data.length cd)):=Zy y3 rfl;unfold F9 at e3 r3;have b3:Zj h1.size h1 g3:=by rw[hg3];exact b2.YX b2.size _
  have ck:=Df T g3 x.1.k x.1.n x.1.a x.1.b pd x.1.data.length cd;unfold Fm at ck;simp -implicitDefEqProofs only[go_sem,f0,f2,f17,f18,f19,Z7,r1,e3,r3];refine ck.use ?_;rintro _ g4 ⟨rfl,b4⟩;have B4:Zj h1.size h1 g4:=b3.trans (b4.mono b3.size);have exr:x.1.err=Wj x.1.k x.1.n x.1.a x.1.b x.1.data.length:=rfl;rw[<-exr];by_cases hex:x.1.err=0
  .simp -implicitDefEqProofs only[go_sem,hex,f19];unfold XN;refine⟨⟨f0,f2,f17,f18,B4,j+1,ZT,rfl,fun y hy=>?_⟩,?_⟩
   .rw[Y8 _ j (by rw[rl];exact ZT),a0]at hy;rcases hy with hy|hy
    .exact hz y hy
    .rw[Au j ZT,<-P9]at hy;have:y=x.1:=by simpa using hy
     rw[this];exact hex
   .simp only[vi,Zr,↓reduceIte,f19];omega
  .have w4:=wz g4 B4;have r4:=rr g4 B4;have l4:=Za (rz g4 B4);simp -implicitDefEqProofs only[go_sem,hex,w4,r4,f2,l4];refine⟨b1.trans (B4.mono pA),?_⟩;unfold Cv;have:Ut (Xh xs)=x.1.err:=by
    have:=Eg (l:=Xh xs) (j:=j) (by rw[rl];exact ZT) hz (by rw[Au j ZT,<-P9];exact hex);rw[this,Au j ZT,<-P9]
   rw[e2,this,if_neg hex];rfl
 have Xv:¬(j:Int)<xs.length:=pA;obtain rfl:j=xs.length:=pA;have XO:∀x∈Xh xs,x.err=0:=fun x hx=>hz x (by rw[al pA];exact hx);have hzero:S5 (Xh xs)=0:=by rw[e2];exact OR XO
 have inv:=inv XO ZiB;simp -implicitDefEqProofs only[go_sem,f18,f19,Xv];refine (Za4 T g2 Nx (MM g2)).use ?_;rintro _ g3 ⟨wb,ZwD,o3,WA3,rfl,K3,A3⟩;unfold Zz;have bh2:Zj h.size h g2:=b1.trans (b2.mono pA);have kh2:Kp S3 Nx h Nx g2:=Kp.G7 (MM h) bh2 _;obtain⟨tX,kF⟩:=ZL ((Xh xs).map Raw.ac);have ZnB:tX.length=xs.length:=by rw[kF,b8,rl]
 have inv:∀j,j<=xs.length->WOk (TK (tX.take j)):=fun j hj=>by
  have:=inv j hj;rw[kF,<-List.map_take];exact this
 simp -implicitDefEqProofs only[go_sem,f0,f2];refine VS.Yk (fun F g=>F 2=.pointer (X ⟨h.size,0,Y⟩)/\F 7=.pointer (X ⟨wb,0,Y⟩)/\F 31=.slice p xs.length c/\F 32=.int .i64 xs.length/\∃(j:Nat) (o':Ow) (YN:Nat->Nat) (JD:WA),j<=xs.length/\F 33=.int .i64 j/\Kp S3 Nx g2 o' g/\QM o' g wb YN JD (TK (tX.take j)))
  (fun F _=>xs.length-(vi (F 33)).toNat) rfl ⟨f2,rfl,rfl,rfl,0,o3,ZwD,WA3,bA _,rfl,K3,A3⟩ ?_
 clear f0 f2 f17 f18 f19 K3 A3;rintro F4 g4 ⟨f2,f7,f31,f32,j,o4,ZwE,nU,hj,f33,K4,A4⟩;by_cases ZT:j<xs.length
 .have Z7:(j:Int)<xs.length:=pA;obtain⟨bb,oo,rfl,TC,Kc⟩:=XL (by intro e;rw[e]at ZT;simp at ZT);obtain⟨x,P9⟩:=ZL (xs[j]);have hxm:x∈xs:=by rw[P9];exact b6 ZT
  have hxe:x.1.err=0:=XO x.1 (by unfold Xh;exact List.mem_map_of_mem hxm);obtain⟨q1,q2,q3,q4,q5⟩:=Eh hxe;have Kh4:Kp S3 Nx h o4 g4:=kh2.trans K4;have iv:=(hx x hxm).Zf Kh4;obtain⟨pd,cd,Oc⟩:=iv.1.ZP;have r1:rd g4 ⟨bb,oo+j*5,Y⟩ 5=X (We x):=by rw[Q3 (At Kh4) TC,P9];exact Kc j ZT
  unfold We F9 at r1;rw[Oc]at r1 iv;obtain⟨g5,hg5⟩:=ZL (g4.push (.cells (F9 x.1.k x.1.n x.1.a x.1.b (.slice pd x.1.data.length cd)).toArray 36):Hp);have e5:=hg5.symm;have k5:Kp Wy o4 g4 o4 g5:=by rw[hg5];exact Yw K4.Yn _
  have y5:g5[g4.size]? = X (.cells (F9 x.1.k x.1.n x.1.a x.1.b (.slice pd x.1.data.length cd)).toArray 36):=by rw[hg5];exact Zc
  have r5:rd g5 ⟨g4.size,0,Y⟩ 5=X (F9 x.1.k x.1.n x.1.a x.1.b (.slice pd x.1.data.length cd)):=Zy y5 rfl;unfold F9 at e5 r5;have en:((x.1.n.toNat:Nat):Int)=x.1.n:=pA;have ea:((x.1.a.toNat:Nat):Int)=x.1.a:=pA;have cd2:=Ziv T g5 o4 wb ZwE nU (TK (tX.take j)) x.1.ac (.slice pd x.1.data.length cd) k5.Yn (A4.Zo k5) (inv j hj) q1 (by unfold Raw.ac;simp only;omega) (iv.Zf k5) (by unfold Raw.ac;simp only;omega) ((tb.Zf Kh4).Zf k5);unfold Zz F9 Raw.ac at cd2;simp only at cd2;rw[en,ea]at cd2;have XI:TK (tX.take (j+1))=act (TK (tX.take j)) ⟨x.1.k,x.1.n.toNat,x.1.a.toNat,x.1.b,x.1.data⟩:=by
   rw[Y8 _ j (by rw[ZnB];exact ZT)];unfold TK;rw[cq];have:tX[j]'(by rw[ZnB];exact ZT)=⟨x.1.k,x.1.n.toNat,x.1.a.toNat,x.1.b,x.1.data⟩:=by
    simp only[kF,List.getElem_map,Au j ZT,<-P9];rfl
   rw[this];rfl
  simp -implicitDefEqProofs only[go_sem,f2,f7,f31,f32,f33,Z7,r1,e5,r5];refine cd2.use ?_;rintro v' g6 ⟨o6,WA6,ZwG,k6,A6⟩;simp -implicitDefEqProofs only[go_sem,f33];unfold XN;refine⟨⟨f2,f7,f31,f32,j+1,o6,ZwG,WA6,ZT,rfl,(K4.trans (YS k5)).trans k6,by rw[XI];exact A6⟩,?_⟩;simp only[vi,Zr,↓reduceIte,f33];omega
 have Xv:¬(j:Int)<xs.length:=pA;obtain rfl:j=xs.length:=pA;rw[al pA]at A4;have okW:=inv xs.length (am _);rw[al pA]at okW;obtain⟨w,hw⟩:=ZL (TK tX);rw[<-hw]at A4 okW;have U4:=XX A4.wd.ZZ.2;have U4o:=U4.out;have ZwH:=Za A4.wd.ZZ.2;obtain⟨pf,cf,hpf,_⟩:=RF A4.wd.Zp;obtain⟨pt,ct,vJ,_⟩:=A4.wd.ZE.ZP;obtain⟨tv,htv⟩:=ZL (nU.ZE);rw[vJ]at U4o htv;obtain⟨kb,hkb⟩:=ZL (g4.size);obtain⟨g5,hg5⟩:=ZL (g4.push (.cells [.int .i64 0,.bool false,.bool false,.bool false,.bool false,.bool false,.slice Y 0 0,.int .i64 (w.Yy 0),.int .i64 (w.Yy 1),.int .i64 (w.Yy 2),.int .i64 (w.Yy 3),.int .i64 (w.Yy 4),.slice pt w.ZE.length ct].toArray 42):Hp);have e5:=hg5.symm;have y5:g5[kb]? = X (.cells [.int .i64 0,.bool false,.bool false,.bool false,.bool false,.bool false,.slice Y 0 0,.int .i64 (w.Yy 0),.int .i64 (w.Yy 1),.int .i64 (w.Yy 2),.int .i64 (w.Yy 3),.int .i64 (w.Yy 4),.slice pt w.ZE.length ct].toArray 42):=by rw[hg5,hkb];exact Zc
 have k5:Kp Wy o4 g4 o4 g5:=by rw[hg5];exact Yw K4.Yn _
 obtain⟨g6,NN⟩:=ZL (g5.setIfInBounds kb (.cells (dW w 0 (.slice Y 0 0) (.slice pt w.ZE.length ct)).toArray 42):Hp);have w6:QX g5 ⟨kb,0,Y⟩ (.int .i64 w.Zp.length)=X g6:=by rw[Xj y5 0 _,NN];rfl
 have l5:=Za y5;obtain⟨o6,ho6⟩:=ZL (QZ o4 kb (.ZA 101));have k6:Kp kE o4 g4 o6 g6:=by rw[ho6,NN];exact ((Z0 k5).Ol pA l5 (.inr rfl)).yq pA _
 have B6:WF o6 (.ZA 101) g6 kb (.cells (dW w 0 (.slice Y 0 0) (.slice pt w.ZE.length ct)).toArray 42):=⟨by rw[ho6];exact X2,by rw[NN];exact ZV y5⟩
 have A5:=A4.Zo k5;have U5:=XX A5.wd.ZZ.2;have U5f:=U5.Zp;rw[hpf]at U5f;have kh:=Za A5.wd.ZZ.2;have nof:∀t,kE t->t.of≠Y:=by rintro t (rfl|rfl) e<;>cases e
 have non:∀t (i:Nat),i<5->kE t->t.of≠X i:=by
  rintro t i hi (rfl|rfl) e
  .have:=Option.some.inj e;omega
  .have:=Option.some.inj e;omega
 have W6:=A4.wd.Zf k6 nof;obtain⟨bn,ZwJ,cn,hn,xP,hbn,ZiC⟩:=TM W6;have U6n:=(XX W6.ZZ.2).Zb;rw[hn]at U6n;have ZnC:=Za W6.ZZ.2;simp -implicitDefEqProofs only[go_sem,f32,f33,Xv,f2,f7,U4o,ZwH,e5];rw[<-hkb];simp -implicitDefEqProofs only[go_sem,f7,U5f,kh,w6,l5,U6n,ZnC];refine VS.Yk (fun F g=>F 2=.pointer (X ⟨h.size,0,Y⟩)/\F 10=.pointer (X ⟨kb,0,Y⟩)/\F 54=.slice (X ⟨bn,ZwJ,Y⟩) 5 cn/\F 55=.int .i64 5/\∃(j:Nat) (o':Ow) (lv:ae) (vs:List ae),j<=5/\F 56=.int .i64 j/\Kp kE o4 g4 o' g/\WF o' (.ZA 101) g kb (.cells (dW w j lv (.slice pt w.ZE.length ct)).toArray 42) /\
   XB o' (.ZA 100) 46 1 g lv j vs/\aT (fun v l=>Im o' 5 g v l.length (ZU JZ.C l)/\∀b,Yf v=X b->g4.size<=b) vs (Ik w j))
  (fun F _=>5-(vi (F 56)).toNat) rfl ⟨f2,rfl,rfl,rfl,0,o6,.slice Y 0 0,[],pA,rfl,k6,B6,XB.nil _ _ _ _ _,.nil⟩ ?_
 clear f2 f7 f31 f32 f33 B6 k6 w6 l5 U6n ZnC W6 ZiC hbn ho6 NN y5 e5;rintro F7 g7 ⟨f2,f10,f54,f55,j,o7,lv,vs,hj,f56,K7,B7,O7,L7⟩;have W7:=A4.wd.Zf K7 nof;by_cases ZT:j<5
 .have Z7:(j:Int)<5:=pA;obtain⟨na,N4j⟩:=A4.nd j ZT;have N7:=N4j.Zf K7 (fun t q=>non t j ZT q);obtain⟨bn',ZB0,cn',NY,ZJI,hbn,ZiC⟩:=TM W7;rw[hn]at NY;simp only[Value.slice.injEq,Option.some.injEq,Addr.mk.injEq,true_and,and_true]at NY;obtain⟨⟨rfl,rfl⟩,rfl⟩:=NY;have ri:=ZiC j ZT;unfold Zz at ri;have P7:=ZR N7.ZZ.2 N7.pt.store.len;have P7u:=P7.up;have Zig:=Za N7.ZZ.2;have l7:=Za B7.2;obtain⟨g8,Do⟩:=ZL (g7.setIfInBounds kb (.cells (dW w (j+1) lv (.slice pt w.ZE.length ct)).toArray 42):Hp);have w8:QX g7 ⟨kb,1+j,Y⟩ (.bool (w.Zb j).up)=X g8:=by
   rw[Xj B7.2,if_pos ⟨by rw[oB];omega,rfl⟩,ZiA w j lv _ ZT,Do]
  have k8:Kp kE o7 g7 o7 g8:=by rw[Do];exact (Kp.refl K7.Yn kE).set B7.1 (.inr rfl) _
  have k8':Kp (fun t=>t=.ZA 101) o7 g7 o7 g8:=by rw[Do];exact (Kp.refl K7.Yn (fun t=>t=.ZA 101)).set B7.1 rfl _
  have B8:WF o7 (.ZA 101) g8 kb (.cells (dW w (j+1) lv (.slice pt w.ZE.length ct)).toArray 42):=⟨B7.1,by rw[Do];exact ZV B7.2⟩
  have O8:=O7.Zf k8' Va;have L8:=Kg L7 (R':=fun v l=>Im o7 5 g8 v l.length (ZU JZ.C l)/\∀b,Yf v=X b->g4.size<=b) (fun v l q=>⟨q.1.Zf k8,q.2⟩);have K8:=K7.trans k8;have N8:=N7.Zf k8 (fun t q=>non t j ZT q);have P8l:=(ZR N8.ZZ.2 N8.pt.store.len).ZA;obtain⟨pl,cl,MV,_⟩:=XB.ZP N8.pt.ZA;have MV:na.ZA=.slice pl (w.Zb j).ZA.length cl:=MV;rw[MV]at P8l;have Tl:=N8.pt.ZA.ts;rw[MV]at Tl;have Zen:=Za N8.ZZ.2;have l8:=Za B8.2;obtain⟨plv,clv,rfl,_⟩:=O8.ZP;have r8:hc g8 ⟨kb,6,Y⟩=X (.slice plv j clv):=Zn B8.2;have cc:=kC T g8 (.slice pl (w.Zb j).ZA.length cl) (w.Zb j).ZA Tl (by have:=okW.ZA j ZT;omega);simp -implicitDefEqProofs only[go_sem,f2,f10,f54,f55,f56,Z7,ri,P7u,Zig,w8,l7,hbn];refine VS.z (g8.size) [8,10] (.p 0 (.q 1 (.p 2 (.p 3 (.p 4 (.q 5 (.s 6 (.s 7 (.w 8 (.p 9 (.w 10 .nil))))))))))) mixed vM ?_;simp -implicitDefEqProofs only[go_sem,f2,f10,r8,P8l,Zen,l8];refine cc.use ?_;rintro v9 g9 ⟨o9,b9⟩;have k9:Kp Wy o7 g8 o7 g9:=ZX K8.Yn b9;have im9:Im o7 5 g9 v9 (w.Zb j).ZA.length (ZU JZ.C (w.Zb j).ZA):=Im.WS o9.Zq (fun b hb=>K8.Yn b hb);have lo9:∀b,Yf v9=X b->g4.size<=b:=fun b hb=>bg K8.size (o9.Zq.ZZ b hb);obtain⟨p9,c9,rfl⟩:=im9.ZP;obtain⟨g10,ZeF⟩:=ZL (g9.push (.cells [.slice p9 (w.Zb j).ZA.length c9].toArray 46):Hp);have e10:=ZeF.symm;have sR:Kp Wy o7 g9 o7 g10:=by rw[ZeF];exact Yw k9.Yn _
  have K10:Kp kE o4 g4 o7 g10:=(K8.trans (Z0 k9)).trans (Z0 sR);have B10:=(B8.Zf k9 (fun q=>q)).Zf sR (fun q=>q);have O10:=(O8.Zf k9 (fun q=>q)).Zf sR (fun q=>q);have ZwL:=im9.Zf sR;have x10:g10[g9.size]? = X (.cells [.slice p9 (w.Zb j).ZA.length c9].toArray 46):=by rw[ZeF];exact Zc
  have src:Sl 1 g10 (.slice (X ⟨g9.size,0,Y⟩) 1 1) 1 [.slice p9 (w.Zb j).ZA.length c9]:=⟨_,1,rfl,rfl,fun _=>⟨g9.size,0,rfl,fun i hi=>by
   rw[Zn x10,YU,Nat.zero_add];exact bG hi⟩⟩
  simp -implicitDefEqProofs only[go_sem,b9,e10];refine⟨by rw[ZeF];exact b9.YX b9.size _,?_⟩;refine Q8 (E:=46) (n:=1) (bytes:=24) (k:=1) Zld Tryz.underlying38 Zsl Zsn rfl Zsm O10 K10.Yn src rfl pA pA ?_;intro v11 o11 g11 O11 vF _;have vF:Kp (fun u=>u=.ZA 100) o7 g10 o11 g11:=vF;obtain⟨p11,c11,rfl,_⟩:=O11.ZP;have B11:=B10.Zf vF Va;have l11:=Za B11.2;obtain⟨g12,bN⟩:=ZL (g11.setIfInBounds kb (.cells (dW w (j+1) (.slice p11 (j+1) c11) (.slice pt w.ZE.length ct)).toArray 42):Hp);have w12:QX g11 ⟨kb,6,Y⟩ (.slice p11 (j+1) c11)=X g12:=by
   rw[Xj B11.2,if_pos ⟨by rw[oB];omega,rfl⟩,ZeD,bN]
  have k12:Kp (fun t=>t=.ZA 101) o11 g11 o11 g12:=by rw[bN];exact (Kp.refl vF.Yn (fun t=>t=.ZA 101)).set B11.1 rfl _
  have B12:WF o11 (.ZA 101) g12 kb (.cells (dW w (j+1) (.slice p11 (j+1) c11) (.slice pt w.ZE.length ct)).toArray 42):=⟨B11.1,by rw[bN];exact ZV B11.2⟩
  simp -implicitDefEqProofs only[go_sem,f10,w12,l11,f56];unfold XN;refine⟨⟨f2,f10,f54,f55,j+1,o11,.slice p11 (j+1) c11,vs++[.slice p9 (w.Zb j).ZA.length c9],ZT,rfl,(K10.trans (vF.mono fun t q=>.inl q)).trans (k12.mono fun t q=>.inr q),B12,O11.Zf k12 Va,?_⟩,?_⟩
  .rw[dX];refine dJ (Kg L8 fun v l q=>⟨((((q.1.Zf k9).Zf sR).Zf vF).Zf k12),q.2⟩) ⟨(ZwL.Zf vF).Zf k12,lo9⟩
  .simp only[vi,Zr,↓reduceIte,f56];omega
 have Xv:¬(j:Int)<5:=pA;obtain rfl:j=5:=pA;have bx7:Yb o7 g7 h.size (.cells vK.toArray 42):=Yb.Zf (Yb.Zf (o:=Nx) ⟨rfl,rz g2 b2⟩ K4) K7;have rk:rd g7 ⟨kb,0,Y⟩ 13=X (dW w 5 lv (.slice pt w.ZE.length ct)):=Zy B7.2 rfl;obtain⟨g8,Do⟩:=ZL (g7.setIfInBounds h.size (.cells (dW w 5 lv (.slice pt w.ZE.length ct)).toArray 42):Hp);have w8:wr g7 ⟨h.size,0,Y⟩ (dW w 5 lv (.slice pt w.ZE.length ct))=X g8:=by
  obtain⟨plv,clv,rfl,_⟩:=O7.ZP;rw[Ye bx7.2 0 _,Do];rfl
 have l7:=Za bx7.2;have r8:rd g8 ⟨h.size,0,Y⟩ 13=X (dW w 5 lv (.slice pt w.ZE.length ct)):=Zy (by rw[Do];exact ZV bx7.2) rfl;have K7a:Kp S3 Nx h o7 g7:=(kh2.trans K4).trans (YS K7);have vl:vs.length=5:=by have:=O7.length;omega
 have bound:h.size<g4.size:=bd (Za (rz g2 b2)) K4.size;rw[show dW w 5 lv (.slice pt w.ZE.length ct)=gm w lv (.slice pt w.ZE.length ct) from rfl]at rk w8 r8;unfold gm at rk w8 r8;simp -implicitDefEqProofs only[go_sem,f55,f56,Xv,f2,f10,rk,w8,l7,r8];refine⟨by rw[Do];exact (At K7a).Zt (am _) _,?_⟩;unfold Cv;rw[hzero,if_pos rfl,<-kF,<-hw];refine⟨_,lv,.slice pt w.ZE.length ct,vs,rfl,fun G hG=>?_⟩;have wt:=W7.ZE;rw[vJ]at wt;have Y7:∀b,b<g7.size->b≠h.size->G[b]? = g8[b]? -> G[b]? = g7[b]?:=fun b _ h2 e=>by rw[e,Do,bo,if_neg (fun e=>h2 e.symm)]
 have hs8:g8.size=g7.size:=by rw[Do];simp
 have Zq:∀t,∀b,o7 b=X t->b<g7.size->G[b]? = g7[b]?:=fun t b q1 q2=>Y7 b q2 (fun e=>by rw[e,bx7.1]at q1;cases q1) (hG b (Za5 K7a q1) pA);refine⟨rfl,⟨by rw[tW,vl];exact (oC O7 (Zq _)).sl⟩,?_,⟨(oC wt (Zq _)).sl⟩,Kg (k:=Ik w 5) L7 fun v l q=>q.1.fits⟩;refine Kg (k:=Ik w 5) L7 fun v l q=>⟨ZnA q.1 fun b hb ZT=>?_⟩
 have:=q.2 b hb;exact Y7 b ZT pA (hG b pA pA)
structure CmI(C:List Cm)(w v:Wd)(m:Nat):Prop where
 nd:∀i,i<5->Uj C i (v.Zb i)
 Wz:∀i,i<5->∀l∈(v.Zb i).Zg,Ui C l
 Mf:v.Zp=w.Zp
 sum:VH (fun i=>(v.Zb i).Zg.length)<=VH (fun i=>(w.Zb i).Zg.length)+m
 wait:VH (fun i=>(v.Zb i).Zk.length)=VH (fun i=>(w.Zb i).Zk.length)
 ZE:v.ZE=w.ZE
 Yy:v.Yy=w.Yy
theorem kG{C:List Cm}{w:Wd}{l:YH}(h1:∀i,i<5->Uj C i (w.Zb i))(h2:∀i,i<5->∀l∈(w.Zb i).Zg,Ui C l)(hl:Ui C l):CmI C w (QL w l) 1:=by
 have hto:l.to.toNat<5:=by have:=hl.to;omega
 unfold QL;split
 .refine⟨fun i hi=>?_,fun i hi x hx=>?_,rfl,?_,?_,rfl,rfl⟩
  .unfold Wd.set;by_cases e:i=l.to.toNat
   .simp only[if_pos e];rw[e];exact { h1 _ hto with }
   .simp only[if_neg e];exact h1 i hi
  .unfold Wd.set at hx;by_cases e:i=l.to.toNat
   .simp only[if_pos e]at hx;rcases a0.1 hx with hx|hx
    .exact h2 _ hto x hx
    .have:x=l:=by simpa using hx
     rw[this];exact hl
   .simp only[if_neg e]at hx;exact h2 i hi x hx
  .have:=RH w l.to.toNat { w.Zb l.to.toNat with Zg:=(w.Zb l.to.toNat).Zg++[l] } (fun n=>n.Zg.length) hto;unfold Wd.set;simp only[aa,bh]at this ⊢;omega
  .have:=RH w l.to.toNat { w.Zb l.to.toNat with Zg:=(w.Zb l.to.toNat).Zg++[l] } (fun n=>n.Zk.length) hto;unfold Wd.set;simp only at this ⊢;omega
 .exact⟨h1,h2,rfl,pA,rfl,rfl,rfl⟩
theorem ZeG{C:List Cm}:∀(ls:List YH) (w:Wd),(∀i,i<5->Uj C i (w.Zb i))->(∀i,i<5->∀l∈(w.Zb i).Zg,Ui C l)->(∀l∈ls,Ui C l)->CmI C w (ls.foldl QL w) (H ls):=by
 intro ls
 induction ls with
 | nil=>intro w h1 h2 _;exact⟨h1,h2,rfl,IQ,rfl,rfl,rfl⟩
 | cons l ls ih=>
  intro w h1 h2 h3;have a:=kG h1 h2 (h3 l IQ);have b:=ih (QL w l) a.nd a.Wz (fun x hx=>h3 x (by simp[hx]));refine⟨b.nd,b.Wz,by rw[bc,b.Mf,a.Mf],?_,by rw[bc,b.wait,a.wait],by rw[bc,b.ZE,a.ZE],by rw[bc,b.Yy,a.Yy]⟩;have h4:=b.sum;have h5:=a.sum;simp only[bc,aO];omega
theorem WI.ZeH{C:List Cm}{w u v:Wd}{m:Nat}(h:WI C k w)(c:CmI C u v m)(hu1:u.Zb=w.Zb)(hu2:∀l∈u.Zp,l∈w.Zp)(hu3:u.ZE=w.ZE)(hu4:u.Yy=w.Yy)(hm:u.Zp.length+m<=w.Zp.length+1):WI C (k+1) v:=by
 have hs:=c.sum;have hw:=c.wait;rw[hu1]at hs hw;have h1:=h.room;have h2:=h.wait;refine⟨c.nd,c.Wz,fun l hl=>h.Mf l (hu2 l (by rw[<-c.Mf];exact hl)),?_,?_,fun i=>by rw[c.Yy,hu4];have:=h.Yy i;omega⟩
 .rw[c.Mf];omega
 .rw[c.ZE,hu3,hw];omega
theorem ZiD{C:List Cm}{w:Wd}(h:WI C k w)(at':Nat)(comes stays:Bool):WI C (k+1) (pick w at' comes stays):=by
 unfold pick;split
 .exact h.more
 .rename_i l hl;have nC:l∈w.Zp:=List.mem_of_getElem? hl;have hll:=h.Mf l nC;have el:(w.Zp.eraseIdx (at'%w.Zp.length)).length+1<=w.Zp.length+1:=by
   have:=List.length_eraseIdx_le w.Zp (at'%w.Zp.length);omega
  have el2:(w.Zp.eraseIdx (at'%w.Zp.length)).length<=w.Zp.length:=pA
  cases comes with
  | true=>
   cases stays with
   | true=>exact h.ZeH (u:=w) (kG h.nd h.Wz hll) rfl (fun l q=>q) rfl rfl pA
   | false=>exact h.ZeH (u:={ w with Zp:=w.Zp.eraseIdx (at'%w.Zp.length) }) (kG h.nd h.Wz hll) rfl (fun l q=>bR q) rfl rfl el
  | false=>
   cases stays with
   | true=>exact h.more
   | false=>exact h.ZeH (u:={ w with Zp:=w.Zp.eraseIdx (at'%w.Zp.length) }) (m:=0) ⟨h.nd,h.Wz,rfl,IQ,rfl,rfl,rfl⟩ rfl (fun l q=>bR q) rfl rfl (by simp only;omega)
def Uz(rc:List Nat):Cm:=⟨XD ((Jg rc).drop 22) 0,XD ((Jg rc).drop 22) 1,XD ((Jg rc).drop 22) 2,XD ((Jg rc).drop 22) 3,XD ((Jg rc).drop 22) 4⟩
theorem Za7(n:Nd)(x:Cm):(SW n x).Zk.length<=n.Zk.length+1:=by
 unfold SW;split
 .omega
 .simp
theorem Za8{C:List Cm}{w:Wd}(h:WI C k w)(hi:i<5){rc:List Nat}(hc:Uz rc∈C):WI C (k+1) (Jz w i rc):=by
 unfold Jz;split
 .split
  .refine⟨h.nd,h.Wz,h.Mf,bg h.room (bk _ (bx k)),bg h.wait (bx k),fun j=>?_⟩;have h1:=h.Yy j;have h2:=h.Yy i;simp only;split<;>omega
  .rename_i q;have e:Xu rc (w.Zb i).ZA.length=Uz rc:=by
    unfold Xu Uz;rw[if_pos (by simpa using q)]
   rw[e];split
   .have hw:=h.wait;refine⟨h.nd,h.Wz,h.Mf,bg h.room (bk _ (bx k)),by simp only[aa,bh];omega,fun j=>by have:=h.Yy j;simp only;omega⟩
   .rw[Sz];have ha:=Zf6 (h.nd i hi) hc;have s1:(add (w.Zb i) (Uz rc)).Zg=(w.Zb i).Zg:=by unfold add;split<;>rfl
    have s2:(SW (add (w.Zb i) (Uz rc)) (Uz rc)).Zg=(w.Zb i).Zg:=by unfold SW;split<;>exact s1
    have s3:=Za7 (add (w.Zb i) (Uz rc)) (Uz rc);have s4:=(add_same (w.Zb i) (Uz rc)).1;refine h.out hi ?_ (fun l hl=>by cases hl) (by simp only[s2];exact h.Wz i hi) (by simp only[s2];simp) (by simp only[List.length_nil];rw[s4]at s3;omega);unfold SW;simp only;split
    .exact ha
    .exact { ha with }
 .exact h.more
theorem Zf8{C:List Cm}(hC:(H C)<=100000){w:Wd}(h:WI C k w)(a:Ac)(hi:a.ZS<5)(hc:Uz a.data∈C):WI C (k+1) (act w a):=by
 have hn:=h.nd a.ZS hi;have hb:=h.Wz a.ZS hi;unfold act;split
 .exact Za8 h hi hc
 split
 .obtain⟨l1,l2,l3⟩:=Za2 hn;rw[Sz];exact h.out hi l1 (fun l hl=>by cases hl) (by simp only[l2];exact hb) (by simp only[l2];simp) (by simp only[l3];simp)
 split
 .obtain⟨s1,s2,s3,s4,s5⟩:=Zit hi hC hn hb;exact h.out hi s1 s2 s3 pA pA
 split
 .exact ZiD h _ _ _
 split
 .have c:=ZeG w.Zp { w with Zp:=[] } h.nd h.Wz h.Mf;exact h.ZeH c rfl (fun l hl=>by cases hl) rfl rfl IQ
 split
 .obtain⟨c1,c2⟩:=tV hn a.Zf;rw[Sz];rcases c2 with⟨c2,c3⟩|c2
  .exact h.out hi c1 (fun l hl=>by cases hl) (by simp only[c2];intro l hl;cases hl) (by simp only[c2];simp) (by simp only[c3];simp)
  .exact h.out hi c1 (fun l hl=>by cases hl) (by simp only[c2];exact hb) (by simp only[c2];simp) (by simp only[c2];simp)
 .obtain⟨c1,c2⟩:=Cu hn;rw[Sz];rcases c2 with⟨c2,c3⟩|c2
  .exact h.out hi c1 (fun l hl=>by cases hl) (by simp only[c2];intro l hl;cases hl) (by simp only[c2];simp) (by simp only[c3];simp)
  .exact h.out hi c1 (fun l hl=>by cases hl) (by simp only[c2];exact hb) (by simp only[c2];simp) (by simp only[c2];simp)
theorem OS(C:List Cm):WI C 0 QT:=by
 refine⟨fun i hi=>Gn IQ Dr.zero,(fun i hi l hl=>by cases hl),(fun l hl=>by cases hl),by simp[QT,VH,Yu],by simp[QT,VH,Yu],fun i=>by simp[QT]⟩
theorem Za9{C:List Cm}(hC:(H C)<=100000):∀(l:List Ac) (k:Nat) (w:Wd),WI C k w->(∀a∈l,a.ZS<5/\Uz a.data∈C)->WI C (k+(H l)) (l.foldl act w):=by
 intro l
 induction l with
 | nil=>intro k w h _;exact h
 | cons a l ih=>
  intro k w h hl;have:=ih (k+1) (act w a) (Zf8 hC h a (hl a IQ).1 (hl a IQ).2) (fun x hx=>hl x (by simp[hx]));rw[aO,show k+((H l)+1)=k+1+(H l) by omega];exact this
theorem ZeI(xs:List (Raw × ae))(hz:∀x∈Xh xs,x.err=0)(hl:(H xs)<=100000)(j:Nat)(hj:j<=(H xs)):WOk (TK (((Xh xs).take j).map Raw.ac)):=by
 obtain⟨C,hC⟩:∃C,C=(Xh xs).map fun x=>Uz x.data:=⟨_,rfl⟩
 have rl:(Xh xs).length=(H xs):=by unfold Xh;simp
 have vD:(H C)<=100000:=by rw[hC,b8,rl];exact hl
 have:=Za9 vD (((Xh xs).take j).map Raw.ac) 0 QT (OS C) (fun a ha=>by
  obtain⟨x,hx,rfl⟩:=cp.1 ha;have hx:=List.mem_of_mem_take hx;obtain⟨_,h2,_,_,_⟩:=Eh (hz x hx);refine⟨by unfold Raw.ac;simp only;omega,?_⟩;rw[hC];exact cp.2 ⟨x,hx,rfl⟩)
 refine this.ok vD ?_;rw[b8,a1];omega
theorem ZeJ(T:bz)(h:Hp)(v:ae)(xs:List (Raw × ae))(hv:Ts We 5 h v xs)(hx:∀x∈xs,Pv Nx h x.2 x.1.data)(tb:dp Nx h)(BT:(H xs)<=4611686018427387904):
  Zd a5 T 19 #[v] h fun v' h'=>Zj h.size h h'/\Cv h.size h' v' (Xh xs):=
 ZeE T h v xs hv hx tb BT fun h1 h2 j hj=>ZeI xs h1 h2 j hj
def SA(n m:Int):Int:=(if n<0 then 0-(n+1) else n)%m
theorem Y2(n:Int){m:Int}(h:0<m):0<=SA n m/\SA n m<m:=⟨Int.emod_nonneg _ pA,Int.emod_lt_of_pos _ h⟩
def i64(n:Int):Prop:=-9223372036854775808<=n/\n<9223372036854775808
theorem Tj(T:bz)(h:Hp)(n m:Int)(hn:i64 n)(hm:1<=m)(rR:m<=1000000):
  Zd a5 T 13 #[W O n,W O m] h fun v' h'=>v'=W O (SA n m)/\h'=h:=by
 unfold i64 at hn;refine Zd.XS [_,_] Tryz.func13 ?_;have hm0:¬m=0:=pA;by_cases q:n<0
 .have e:SA n m=(0-(n+1)).tmod m:=by unfold SA;rw[if_pos q,br pA]
  rw[e];simp -implicitDefEqProofs only[go_sem,q,hm0]
 .have e:SA n m=n.tmod m:=by unfold SA;rw[if_neg q,br pA]
  rw[e];simp -implicitDefEqProofs only[go_sem,q,hm0]
theorem WU(T:bz)(h:Hp)(n m:Int)(hn:i64 n)(hm:1<=m)(rR:m<=1000000):
  Zd a5 T 7 #[W O n,W O m] h fun v' h'=>v'=W O (SA n m)/\h'=h:=by
 refine Zd.XS [_,_] Tryz.func7 ?_;simp -implicitDefEqProofs only[go_sem];refine (Tj T h n m hn hm rR).pure ?_;simp -implicitDefEqProofs only[go_sem]
def Kh(k c s n v:Int):List ae:=[W O k,W O c,W O s,W O n,W O v]
def tZ(k c s n v:Int):Cm:=⟨1+(SA k 5).tdiv 2,SA c 4,SA s 6,SA n 4,if 1+(SA k 5).tdiv 2=1 then SA v 1000 else 0⟩
theorem Hm(T:bz)(h:Hp)(k c s n v:Int)(hk:i64 k)(hc:i64 c)(hs:i64 s)(hn:i64 n)(hv:i64 v):
  Zd a5 T 5 #[aN (Kh k c s n v).toArray] h fun v' h'=>v'=aN (tZ k c s n v).C.toArray/\Zj h.size h h':=by
 refine Zd.XS [_] Tryz.func5 ?_;unfold Kh;simp -implicitDefEqProofs only[go_sem];refine VS.w (h.size+2) [16] (.q 0 (.q 1 (.q 2 (.q 3 (.q 4 (.q 5 (.q 6 (.q 7 (.q 8 (.q 9 (.q 10 (.q 11 (.q 12 (.q 13 (.q 14 (.s 15 (.w 16 .nil))))))))))))))))) mixed vM ?_;simp -implicitDefEqProofs only[go_sem];refine Up (fun h=>Tj T h k 5 hk pA pA) ?_;simp -implicitDefEqProofs only[go_sem];refine Up (fun h=>Tj T h c 4 hc pA pA) ?_;simp -implicitDefEqProofs only[go_sem];refine Up (fun h=>Tj T h s 6 hs pA pA) ?_;simp -implicitDefEqProofs only[go_sem];refine Up (fun h=>Tj T h n 4 hn pA pA) ?_;have r1:=Y2 k (m:=5) pA;generalize KW:SA k 5=K at *;have r2:0<=K.tdiv 2/\K.tdiv 2<=2:=by rw[Int.tdiv_eq_ediv_of_nonneg r1.1];omega
 unfold tZ;rw[KW];generalize K.tdiv 2=J at *;by_cases q:1+J=1
 .simp -implicitDefEqProofs only[go_sem,q];refine⟨Zj.push IQ _,(Tj T _ v 1000 hv pA pA).pure ?_⟩;simp -implicitDefEqProofs only[go_sem,q];exact⟨rfl,(((Zj.refl _ _).add _).add _).add _⟩
 .simp -implicitDefEqProofs only[go_sem,q];exact⟨Zj.push IQ _,rfl,(((Zj.refl _ _).add _).add _).add _⟩
structure Gr where
 k:Int
 a:Int
 b:Int
 c:Int
 d:Int
def Gr.C(g:Gr):List ae:=[W O g.k,W O g.a,W O g.b,W O g.c,W O g.d]
def Gr.ok(g:Gr):Prop:=(i64 g.k/\i64 g.a)/\i64 g.b/\i64 g.c/\i64 g.d
def S6(n c r u:Int)(x:Cm):List Nat:=if QD n c r u x.k x.c x.s x.n x.v=0 then Ic n c r u x.k x.c x.s x.n x.v else []
def dY:Raw:=⟨7,0,0,0,[]⟩
theorem Il{B:Nat}{h:Hp}{v:ae}{l:List Nat}{o:Ow}(s:YB B 5 h v l)(hf:∀b,B<=b->o b=Y):Pv o h v l:=⟨Im.WS s.Zq hf,s.byte⟩
def Xo(l:List Raw):Wd:=TK (l.map Raw.ac)
theorem Zba{h:Hp}{v:ae}{l:List (Raw × ae)}(s:Ts We 5 h v l):∃p c,v=U p (H l) c:=by
 obtain⟨p,c,h,_⟩:=Cw s;exact⟨p,c,h⟩
theorem oE{α β:Type}{R:α->β->Prop}{l:List α}{k:List β}(h:aT R l k):(H l)=(H k):=by
 induction h with
 | nil=>rfl
 | cons _ _ ih=>rw[aO,aO,ih]
set_option maxHeartbeats 4000000 in
theorem Zbb(T:bz)(h:Hp)(v:ae)(xs:List (Raw × ae))(hv:Ts We 5 h v xs)(hx:∀x∈xs,Pv Nx h x.2 x.1.data)(tb:dp Nx h)(BT:(H xs)<=4611686018427387904)(hz:S5 (Xh xs)=0):
  Zd a5 T 8 #[v] h fun v' h'=>(∃lv tv vs,v'=.tuple #[aN (gm (Xo (Xh xs)) lv tv).toArray,ag true]/\VI (h.size+1) h' (gm (Xo (Xh xs)) lv tv) (Xo (Xh xs)) lv tv vs)/\Zj h.size h h':=by
 obtain⟨p,c,vH⟩:=Zba hv;subst vH;refine Zd.XS [_] Tryz.func8 ?_;obtain⟨h0,Qe⟩:=ZL (h.push (ab vK.toArray 42):Hp);have e0:=Qe.symm;have b0:Zj h.size h h0:=by rw[Qe];exact (Zj.refl _ _).add _
 have z0:h0[h.size]? = X (ab vK.toArray 42):=by rw[Qe];exact Zc
 have k0:Kp Wy Nx h Nx h0:=ZX (MM h) b0;unfold vK at e0;simp -implicitDefEqProofs only[go_sem,e0];refine (ZeJ T h0 _ xs (hv.Yz b0) (fun x hxm=>(hx x hxm).Zf k0) (tb.Zf k0) BT).use ?_;rintro v1 h1 ⟨b1,r1⟩;have B1:=b0.trans (b1.mono b0.size);unfold Cv at r1;rw[if_pos hz]at r1;obtain⟨R,lv,tv,vs,rfl,rf⟩:=r1;have ra:=rf.at;obtain⟨pl,cl,hl,_⟩:=ra.Znz.open (n:=1) (enc:=fun v=>[v]) (fun _=>rfl) (show (1:Nat)≠0 by decide);have vl:(H vs)=5:=oE ra.each;subst hl;rw[vl]at *;have rc:=ra.cells;subst rc;obtain⟨R,hR⟩:=ZL (gm (Xo (Xh xs)) (U pl 5 cl) tv);have hR':gm (TK (List.map Raw.ac (Xh xs))) (U pl 5 cl) tv=R:=by rw[hR];rfl
 rw[hR'];rw[hR']at ra rf;obtain⟨pt,ct,ht,_⟩:=ra.ZE.open (n:=5) (enc:=FQ) (fun _=>rfl) (show (5:Nat)≠0 by decide);have t9:(H R)=13:=by rw[hR];rfl
 have nR:R.all YE=true:=by rw[hR,ht];rfl
 have hRp:Xd [Value.int O 0,ag false,ag false,ag false,ag false,ag false,U Y 0 0,W O 0,W O 0,W O 0,W O 0,W O 0,U Y 0 0] 0 R=R:=ZW (by rw[t9];rfl);have ua:(H R)<=13:=pA;have hR6:nth R 6=X (U pl 5 cl):=by rw[hR];rfl
 obtain⟨h2,Vq⟩:=ZL (h1.push (ab R.toArray 42):Hp);have e2:=Vq.symm;have b2:Zj h1.size h1 h2:=by rw[Vq];exact (Zj.refl _ _).add _
 have y2:h2[h1.size]? = X (ab R.toArray 42):=by rw[Vq];exact Zc
 have z2:=b2.get (Za (b1.get (Za z0) z0)) (b1.get (Za z0) z0);have lz:=Za z2;have ly:=Za y2;have r2:rd h2 ⟨h1.size,0,Y⟩ 13=X R:=Zy y2 t9;have r6:hc h2 ⟨h1.size,6,Y⟩=X (U pl 5 cl):=by rw[Zn y2];exact hR6
 have w2:wr h2 ⟨h.size,0,Y⟩ R=X (h2.setIfInBounds h.size (ab R.toArray 42)):=by
  rw[Ye z2 0 _,if_pos ⟨by rw[t9];decide,nR⟩];have:Xd vK 0 R=R:=ZW (by rw[t9];rfl);rw[this]
 have z3:=ZV (o:=ab R.toArray 42) z2;have r3:=Zy z3 t9;simp -implicitDefEqProofs only[go_sem,t9,nR,hRp,ua,e2];refine VS.z (h.size) [0,5,9] (.p 1 (.p 2 (.p 3 (.p 4 (.or 0 (.or 5 (.p 6 (.p 7 (.p 8 (.w 9 (.p 10 .nil))))) (.s 9 (.w 5 (.p 6 (.p 7 (.p 8 (.p 10 .nil))))))) (.s 5 (.p 6 (.p 7 (.p 8 (.w 0 (.w 9 (.p 10 .nil)))))))))))) mixed vM ?_;have s0:h0.size=h.size+1:=by rw[Qe];simp
 have Y7:¬h1.size=h.size:=by have:=b1.size;omega
 have e5:decide (((5:Nat):Int)=5)=true:=rfl;have et:R.take 13=R:=al pA;have bs:Zj h.size h (h2.setIfInBounds h.size (ab R.toArray 42)):=(B1.trans (b2.mono B1.size)).Zt (am _) _;have rf2:VI (h.size+1) (h2.setIfInBounds h.size (ab R.toArray 42)) R (TK (List.map Raw.ac (Xh xs))) (U pl 5 cl) tv vs:=by
  rw[s0]at rf;exact (rf.Yz b2).set pA _
 have key:(∃lv tv vs,Value.tuple #[aN R.toArray,ag true]=.tuple #[aN (gm (Xo (Xh xs)) lv tv).toArray,ag true]/\VI (h.size+1) (h2.setIfInBounds h.size (ab R.toArray 42)) (gm (Xo (Xh xs)) lv tv) (Xo (Xh xs)) lv tv vs)/\Zj h.size h (h2.setIfInBounds h.size (ab R.toArray 42)):=
  ⟨⟨_,tv,vs,by rw[<-hR],by rw[<-hR];exact rf2⟩,bs⟩
 simp -implicitDefEqProofs only[go_sem,r2,r6,w2,t9,nR,ua,ly,lz,Y7,hR6,e5,et];exact⟨⟨key,key⟩,key⟩
theorem QE(a:YA):¬ZM a a:=by unfold ZM;omega
theorem Jb{a c:YA}(h1:¬ZM b a)(h2:¬ZM c b):¬ZM c a:=by unfold ZM at *;omega
theorem Ki{a:YA}(h:ZM a b):¬ZM b a:=by unfold ZM at *;omega
theorem Py{a:YA}(h1:¬ZM a b)(h2:¬ZM b a):a=b:=by
 obtain⟨r,n⟩:=a;obtain⟨s,m⟩:=b;unfold ZM at h1 h2;simp only at h1 h2;rw[YA.mk.injEq];omega
def ZeK(b:YA):Nat:=(b.r*5+b.n).toNat
theorem oF{a:YA}(ha:ZF a)(hb:ZF b)(h:ZM a b):ZeK a<ZeK b:=by
 unfold ZF at ha hb;unfold ZM at h;unfold ZeK;omega
theorem OT{α:Type}[DecidableEq α]:∀{l C:List α},l.Nodup->(∀x∈l,x∈C)->(H l)<=(H C):=by
 intro l
 induction l with
 | nil=>intro C _ _;simp
 | cons x l ih=>
  intro C hn h;rw[cu]at hn;have h1:=ih (C:=C.erase x) hn.2 (fun y hy=>(ca (fun e=>hn.1 (by rw[<-e];exact hy))).2 (h y (by simp[hy])));have h2:x∈C:=h x IQ;have h3:=ba h2;have h4:0<(H C):=be h2;simp only[aO];omega
def Maj(Q:List Nat):Prop:=Q.Nodup/\(∀i∈Q,i<5)/\3<=(H Q)
theorem Maj.meet{Q R:List Nat}(q:Maj Q)(r:Maj R):∃i,i∈Q/\i∈R:=by
 refine aw fun h=>?_;have hd:(Q++R).Nodup:=by
  rw[co];exact⟨q.1,r.1,fun a ha b hb e=>h ⟨a,ha,by rw[e];exact hb⟩⟩
 have:=OT (C:=cB 5) hd (fun x hx=>by
  rw[bf];rcases a0.1 hx with hx|hx
  .exact q.2.1 x hx
  .exact r.2.1 x hx)
 have h1:=q.2.2;have h2:=r.2.2;simp only[aa,List.length_range]at this;omega
structure Gh where
 V:Nat->YA->Int->Cm->Prop
 P:YA->Int->Cm->Prop
def Ho(g:Gh)(M:Nat->YA)(b:YA)(s:Int):Prop:=∃Q,Maj Q/\(∀i∈Q,¬ZM (M i) b)/\∀i∈Q,∀b' y,ZM b' b->¬g.V i b' s y
def Safe(g:Gh)(M:Nat->YA)(b:YA)(s:Int)(x:Cm):Prop:=
 ∃Q,Maj Q/\(∀i∈Q,¬ZM (M i) b)/\((∀i∈Q,∀b' y,ZM b' b->¬g.V i b' s y)\/∃b0 j,ZM b0 b/\g.V j b0 s x/\∀i∈Q,∀b' y,ZM b' b->g.V i b' s y->¬ZM b0 b')
theorem Ho.safe{g:Gh}{M:Nat->YA}{s:Int}(h:Ho g M b s)(x:Cm):Safe g M b s x:=by
 obtain⟨Q,q,h1,h2⟩:=h;exact⟨Q,q,h1,.inl h2⟩
structure GI(S:Cm->Prop)(g:Gh)(M:Nat->YA):Prop where
 vp:∀i b s x,g.V i b s x->g.P b s x
 one:∀b s x y,g.P b s x->g.P b s y->x=y
 Z5:∀i b s x,g.V i b s x->¬ZM (M i) b
 may:∀b s x,g.P b s x->ZF b
 safe:∀b s x,g.P b s x->Safe g M b s x
 Zq:∀b s x,g.P b s x->¬ZM (M b.n.toNat) b
 cmd:∀b s x,g.P b s x->x=Oa\/S x
def Jr(g:Gh)(s:Int)(x:Cm):Prop:=∃Q b,Maj Q/\∀i∈Q,g.V i b s x
theorem V7{S:Cm->Prop}{g:Gh}{M:Nat->YA}(G:GI S g M){Q:List Nat}{s:Int}{x:Cm}(hQ:Maj Q)(hv:∀i∈Q,g.V i b s x):∀n b' y,ZeK b'<=n->g.P b' s y->ZM b b'->y=x:=by
 have hb:g.P b s x:=by
  obtain⟨i,h1,_⟩:=hQ.meet hQ;exact G.vp _ _ _ _ (hv i h1)
 intro n
 induction n with
 | zero=>
  intro b' y h1 h2 h3;have:=oF (G.may _ _ _ hb) (G.may _ _ _ h2) h3;omega
 | succ n ih=>
  intro b' y h1 h2 h3;obtain⟨R,hR,_,h5⟩:=G.safe _ _ _ h2;obtain⟨i,i1,i2⟩:=hQ.meet hR;rcases h5 with h5|⟨b0,j,h5,h6,h7⟩
  .exact (h5 i i2 b x h3 (hv i i1)).elim
  .have h8:=h7 i i2 b x h3 (hv i i1);have h9:=G.vp _ _ _ _ h6;by_cases e:ZM b b0
   .have:=oF (G.may _ _ _ h9) (G.may _ _ _ h2) h5;exact ih b0 y pA h9 e
   .have:=Py e h8;subst this;exact G.one _ _ _ _ h9 hb
theorem Jr.one{S:Cm->Prop}{g:Gh}{M:Nat->YA}(G:GI S g M){s:Int}{x y:Cm}(hx:Jr g s x)(hy:Jr g s y):x=y:=by
 obtain⟨Q,b,q,h⟩:=hx;obtain⟨R,c,r,k⟩:=hy;have hb:g.P b s x:=by
  obtain⟨i,h1,_⟩:=q.meet q;exact G.vp _ _ _ _ (h i h1)
 have hc:g.P c s y:=by
  obtain⟨i,h1,_⟩:=r.meet r;exact G.vp _ _ _ _ (k i h1)
 by_cases e:ZM b c
 .exact (V7 G q h _ c y (am _) hc e).symm
 .by_cases f:ZM c b
  .exact V7 G r k _ b x (am _) hb f
  .have:=Py e f;subst this;exact G.one _ _ _ _ hb hc
theorem Jr.ZY{S:Cm->Prop}{g:Gh}{M:Nat->YA}(G:GI S g M){s:Int}{x:Cm}(hx:Jr g s x):∃b,g.P b s x:=by
 obtain⟨Q,b,q,h⟩:=hx;obtain⟨i,h1,_⟩:=q.meet q;exact⟨b,G.vp _ _ _ _ (h i h1)⟩
structure Ext(i:Nat)(g:Gh)(M:Nat->YA)(g':Gh)(M':Nat->YA):Prop where
 v:∀j b s x,g.V j b s x->g'.V j b s x
 p:∀b s x,g.P b s x->g'.P b s x
 m:∀j,¬ZM (M' j) (M j)
 fz:∀j b s x,g'.V j b s x->g.V j b s x\/¬ZM b (M j)
 oth:∀j,j≠i->M' j=M j/\∀b s x,g'.V j b s x->g.V j b s x
 Zq:∀b s x,g'.P b s x->g.P b s x\/b.n=i
theorem Ext.refl(i:Nat)(g:Gh)(M:Nat->YA):Ext i g M g M:=⟨fun _ _ _ _ h=>h,fun _ _ _ h=>h,fun _=>QE _,fun _ _ _ _ h=>.inl h,fun _ _=>⟨rfl,fun _ _ _ h=>h⟩,fun _ _ _ h=>.inl h⟩
structure PF(g:Gh)(M:Nat->YA)(i:Nat)(b:YA)(vs:List Vt):Prop where
 lt:i<5
 Z5:¬ZM (M i) b
 has:∀v∈vs,g.V i v.b v.Zu v.cm/\¬ZM b v.b
 all:∀b' s x,ZM b' b->g.V i b' s x->∃v∈vs,v.Zu=s/\¬ZM v.b b'
section
variable {i:Nat} {g g':Gh} {M M':Nat->YA}
theorem Ext.frozen(E:Ext i g M g' M'){j:Nat}{b':YA}{s:Int}{x:Cm}(h:¬ZM (M j) b)(hb:ZM b' b)(hv:g'.V j b' s x):g.V j b' s x:=by
 rcases E.fz _ _ _ _ hv with q|q
 .exact q
 .exact (Jb h q hb).elim
theorem PF.ext(E:Ext i g M g' M'){j:Nat}{vs:List Vt}(h:PF g M j b vs):PF g' M' j b vs:=
 ⟨h.lt,Jb h.Z5 (E.m j),fun v hv=>⟨E.v _ _ _ _ (h.has v hv).1,(h.has v hv).2⟩,fun b' s x hb hv=>h.all b' s x hb (E.frozen h.Z5 hb hv)⟩
theorem Jr.ext(E:Ext i g M g' M'){s:Int}{x:Cm}(h:Jr g s x):Jr g' s x:=by
 obtain⟨Q,b,q,h⟩:=h;exact⟨Q,b,q,fun i hi=>E.v _ _ _ _ (h i hi)⟩
theorem Ho.ext(E:Ext i g M g' M'){s:Int}(h:Ho g M b s):Ho g' M' b s:=by
 obtain⟨Q,q,h1,h2⟩:=h;exact⟨Q,q,fun i hi=>Jb (h1 i hi) (E.m i),fun i hi b' y hb hv=>h2 i hi b' y hb (E.frozen (h1 i hi) hb hv)⟩
theorem Safe.ext(E:Ext i g M g' M'){s:Int}{x:Cm}(h:Safe g M b s x):Safe g' M' b s x:=by
 obtain⟨Q,q,h1,h2⟩:=h;refine⟨Q,q,fun i hi=>Jb (h1 i hi) (E.m i),?_⟩;rcases h2 with h2|⟨b0,j,h3,h4,h5⟩
 .exact .inl fun i hi b' y hb hv=>h2 i hi b' y hb (E.frozen (h1 i hi) hb hv)
 .exact .inr ⟨b0,j,h3,E.v _ _ _ _ h4,fun i hi b' y hb hv=>h5 i hi b' y hb (E.frozen (h1 i hi) hb hv)⟩
end
def NO(M:Nat->YA)(i:Nat)(b:YA):Nat->YA:=fun j=>if j=i then b else M j
theorem raised{S:Cm->Prop}{g:Gh}{M:Nat->YA}(G:GI S g M)(hb:¬ZM b (M i)):Ext i g M g (NO M i b)/\GI S g (NO M i b):=by
 have hm:∀j,¬ZM (NO M i b j) (M j):=fun j=>by
  unfold NO;split
  .rename_i e;rw[e];exact hb
  .exact QE _
 have E:Ext i g M g (NO M i b):=⟨fun _ _ _ _ h=>h,fun _ _ _ h=>h,hm,fun _ _ _ _ h=>.inl h,fun j hj=>⟨by unfold NO;rw[if_neg hj],fun _ _ _ h=>h⟩,fun _ _ _ h=>.inl h⟩
 exact⟨E,G.vp,G.one,fun j c s x h=>Jb (G.Z5 j c s x h) (hm j),G.may,fun c s x h=>(G.safe c s x h).ext E,fun c s x h=>Jb (G.Zq c s x h) (hm _),G.cmd⟩
def kH(g:Gh)(i:Nat)(b:YA)(s:Int)(x:Cm):Gh:=⟨fun j c t y=>g.V j c t y\/(j=i/\c=b/\t=s/\y=x),g.P⟩
theorem ZnH{S:Cm->Prop}{g:Gh}{M:Nat->YA}(G:GI S g M){s:Int}{x:Cm}(hp:g.P b s x)(hb:¬ZM b (M i)):Ext i g M (kH g i b s x) (NO M i b)/\GI S (kH g i b s x) (NO M i b):=by
 have hm:∀j,¬ZM (NO M i b j) (M j):=fun j=>by
  unfold NO;split
  .rename_i e;rw[e];exact hb
  .exact QE _
 have E:Ext i g M (kH g i b s x) (NO M i b):=by
  refine⟨fun _ _ _ _ h=>.inl h,fun _ _ _ h=>h,hm,fun j c t y h=>?_,fun j hj=>⟨by unfold NO;rw[if_neg hj],fun c t y h=>?_⟩,fun _ _ _ h=>.inl h⟩
  .rcases h with h|⟨rfl,rfl,rfl,rfl⟩
   .exact .inl h
   .exact .inr hb
  .rcases h with h|⟨rfl,_⟩
   .exact h
   .exact (hj rfl).elim
 refine⟨E,fun j c t y h=>?_,G.one,fun j c t y h=>?_,G.may,fun c t y h=>(G.safe c t y h).ext E,fun c t y h=>Jb (G.Zq c t y h) (hm _),G.cmd⟩
 .rcases h with h|⟨rfl,rfl,rfl,rfl⟩
  .exact G.vp _ _ _ _ h
  .exact hp
 .rcases h with h|⟨rfl,rfl,rfl,rfl⟩
  .exact Jb (G.Z5 _ _ _ _ h) (hm j)
  .unfold NO;rw[if_pos rfl];exact QE _
def oH(g:Gh)(b:YA)(l:List (Int × Cm)):Gh:=⟨g.V,fun c t y=>g.P c t y\/(c=b/\Yh l t=X y)⟩
theorem dZ{S:Cm->Prop}{g:Gh}{M:Nat->YA}(G:GI S g M){l:List (Int × Cm)}(hn:b.n=i)(hm:ZF b)(ht:¬ZM (M i) b)(h1:∀t y,g.P b t y->Yh l t=X y)(h2:∀t y,Yh l t=X y->Safe g M b t y)(h3:∀t y,Yh l t=X y->y=Oa\/S y):
  Ext i g M (oH g b l) M/\GI S (oH g b l) M:=by
 have E:Ext i g M (oH g b l) M:=by
  refine⟨fun _ _ _ _ h=>h,fun _ _ _ h=>.inl h,fun _=>QE _,fun _ _ _ _ h=>.inl h,fun j hj=>⟨rfl,fun _ _ _ h=>h⟩,fun c t y h=>?_⟩;rcases h with h|⟨rfl,_⟩
  .exact .inl h
  .exact .inr hn
 refine⟨E,fun j c t y h=>.inl (G.vp _ _ _ _ h),fun c t y z hy hz=>?_,G.Z5,fun c t y h=>?_,fun c t y h=>?_,fun c t y h=>?_,fun c t y h=>?_⟩
 .rcases hy with hy|⟨rfl,hy⟩
  .rcases hz with hz|⟨rfl,hz⟩
   .exact G.one _ _ _ _ hy hz
   .have:=h1 _ _ hy;rw[hz]at this;exact (Option.some.inj this).symm
  .rcases hz with hz|⟨_,hz⟩
   .have:=h1 _ _ hz;rw[hy]at this;exact Option.some.inj this
   .rw[hy]at hz;exact Option.some.inj hz
 .rcases h with h|⟨rfl,_⟩
  .exact G.may _ _ _ h
  .exact hm
 .rcases h with h|⟨rfl,h⟩
  .exact (G.safe _ _ _ h).ext E
  .exact (h2 _ _ h).ext E
 .rcases h with h|⟨rfl,h⟩
  .exact G.Zq _ _ _ h
  .rw[hn];exact ht
 .rcases h with h|⟨rfl,h⟩
  .exact G.cmd _ _ _ h
  .exact h3 _ _ h
theorem RJ{n:Nat}(h:n<4294967296):n/16777216%256*16777216+n/65536%256*65536+n/256%256*256+n%256=n:=pA
theorem d7(h:YI a.p a.l b=0):JK a (JT b)=X ⟨b,a.l⟩:=by
 have hb:=Nu h;obtain⟨r,m⟩:=b;unfold ZF at hb;simp only at hb;have e1:XH (JT ⟨r,m⟩) 1=r.toNat:=by
  have:XH (JT ⟨r,m⟩) 1=r.toNat/16777216%256*16777216+r.toNat/65536%256*65536+r.toNat/256%256*256+r.toNat%256:=by simp[XH,JT,ZC,Xq]
  rw[this];exact RJ pA
 have e2:XH (JT ⟨r,m⟩) 5=m.toNat:=by
  have:XH (JT ⟨r,m⟩) 5=m.toNat/16777216%256*16777216+m.toNat/65536%256*65536+m.toNat/256%256*256+m.toNat%256:=by simp[XH,JT,ZC,Xq]
  rw[this];exact RJ pA
 have e3:(⟨((XH (JT ⟨r,m⟩) 1:Nat):Int),((XH (JT ⟨r,m⟩) 5:Nat):Int)⟩:YA)=⟨r,m⟩:=by
  rw[e1,e2,YA.mk.injEq];omega
 unfold JK;rw[if_pos ⟨rfl,rfl⟩,e3,if_pos h]
theorem Zbc{v:Vt}(h:Xn a.p a.l v=0):JK a (Uy v)=X ⟨v.b,JH a.l v⟩:=by
 have hv:=Ij h;obtain⟨s,⟨r,m⟩,k,c,q,nm,x⟩:=v;obtain⟨h1,h2,h3⟩:=hv;unfold ZF at h2;simp only at h1 h2 h3;obtain⟨k',c',q',n',x',rfl,rfl,rfl,rfl,rfl,b1,b2,b3,b4,b5⟩:=YY h3;have f:∀(i:Nat) (n:Nat),XH (Uy ⟨s,⟨r,m⟩,k',c',q',n',x'⟩) i=n/16777216%256*16777216+n/65536%256*65536+n/256%256*256+n%256->n<4294967296->XH (Uy ⟨s,⟨r,m⟩,k',c',q',n',x'⟩) i=n:=fun i n e hn=>by rw[e];exact RJ hn
 have e1:=f 1 s.toNat (by simp[XH,Uy,ZC,Xq]) (by omega);have e2:=f 5 r.toNat (by simp[XH,Uy,ZC,Xq]) (by omega);have e3:=f 9 m.toNat (by simp[XH,Uy,ZC,Xq]) (by omega);have e4:=f 13 k' (by simp[XH,Uy,ZC,Xq]) (by omega);have e5:=f 17 c' (by simp[XH,Uy,ZC,Xq]) (by omega);have e6:=f 21 q' (by simp[XH,Uy,ZC,Xq]) (by omega);have e7:=f 25 n' (by simp[XH,Uy,ZC,Xq]) (by omega);have e8:=f 29 x' (by simp[XH,Uy,ZC,Xq]) (by omega);have hl:(Uy ⟨s,⟨r,m⟩,k',c',q',n',x'⟩).length=33:=rfl;obtain⟨L,hL⟩:=ZL (Uy ⟨s,⟨r,m⟩,k',c',q',n',x'⟩);have h0:L.getD 0 0=2:=by rw[hL];rfl
 rw[<-hL]at e1 e2 e3 e4 e5 e6 e7 e8 hl ⊢;have d4:QA (L.drop 13)=0:=by
  unfold QA;rw[if_pos (by rw[cr];omega),Uf,Uf,Uf,Uf,Uf,e4,e5,e6,e7,e8];exact h3
 have d5:dh (L.drop 13) ⟨((XH L 1:Nat):Int),⟨((XH L 5:Nat):Int),((XH L 9:Nat):Int)⟩,0,0,0,0,0⟩=⟨s,⟨r,m⟩,k',c',q',n',x'⟩:=by
  unfold dh
  dsimp only
  rw[Uf,Uf,Uf,Uf,Uf,e1,e2,e3,e4,e5,e6,e7,e8,Vt.mk.injEq,YA.mk.injEq];refine⟨by omega,⟨by omega,by omega⟩,rfl,rfl,rfl,rfl,rfl⟩
 have d6:(⟨((XH L 5:Nat):Int),((XH L 9:Nat):Int)⟩:YA)=⟨r,m⟩:=by rw[e2,e3,YA.mk.injEq];omega
 unfold JK;rw[if_neg (by omega),if_pos ⟨hl,h0⟩,if_neg (by rw[d4];decide),d5,d6,if_pos h]
theorem Cx{d:List Nat}{a':UP}{k':Nat}(h:Y9 d a k=X (a',k')):k<k'/\k'<=(H d):=by
 unfold Y9 at h;split at h
 .rename_i q;rw[a8]at h;obtain⟨x,_,e⟩:=h;simp only[Prod.mk.injEq]at e;omega
 .cases h
theorem d8{d e:List Nat}(h:k<(H d)):(d++e).getD k 0=d.getD k 0:=by
 rw[a2,a2,List.getElem?_append_left h]
theorem Gp{d e:List Nat}{n:Nat}(h:k+n<=(H d)):((d++e).drop k).take n=(d.drop k).take n:=by
 rw[bl (by omega),a6 (by rw[cr];omega)]
theorem Zbd{d:List Nat}{a':UP}{k':Nat}(h:Y9 d a k=X (a',k'))(e:List Nat):Y9 (d++e) a k=X (a',k'):=by
 unfold Y9 at h ⊢;split at h
 .rename_i q;have q1:Vr (d++e) k=Vr d k:=by unfold Vr;rw[d8 q.1]
  have h1:1<=Vr d k:=by unfold Vr;omega
  have q2:(T6 (((d++e).drop k).take (Vr d k))).take 4=((d++e).drop (k+Vr d k)).take 4:=by
   rw[Gp (by omega),Gp (by omega)];exact q.2.2
  rw[q1,if_pos ⟨by rw[aa];omega,by rw[aa];omega,q2⟩,Gp (by omega),h]
 .cases h
theorem Zbe{d:List Nat}{a':UP}{k':Nat}(h:Y9 d a k=X (a',k')){j:Nat}(hj:k'<=j):Y9 (d.take j) a k=X (a',k'):=by
 unfold Y9 at h ⊢;split at h
 .rename_i q;rw[a8]at h;obtain⟨x,hx,e⟩:=h;simp only[Prod.mk.injEq]at e;obtain⟨e1,e2⟩:=e;have q0:d=d.take j++d.drop j:=(List.take_append_drop j d).symm;have ql:(d.take j).length=min j (H d):=a1;have q1:Vr d k=Vr (d.take j) k:=by
   unfold Vr
   conv=>lhs;rw[q0]
   rw[d8 pA]
  have hN:1<=Vr d k:=by unfold Vr;omega
  have m1:∀a n,a+n<=j->a+n<=(H d)->(d.drop a).take n=((d.take j).drop a).take n:=fun a n h1 h2=>by
   conv=>lhs;rw[q0]
   exact Gp pA
  have q2:(T6 (((d.take j).drop k).take (Vr d k))).take 4=((d.take j).drop (k+Vr d k)).take 4:=by
   rw[<-m1 _ _ pA pA,<-m1 _ _ pA pA];exact q.2.2
  rw[<-q1,if_pos ⟨pA,pA,q2⟩,<-m1 _ _ pA pA,hx,<-e1,<-e2,cA]
 .cases h
theorem Rec.fits{l:List Nat}{r:UP}{j:Nat}(h:Rec l a k r j):k<=(H l)->k<=j/\j<=(H l):=by
 induction h with
 | stop e=>intro h;omega
 | go e _ ih=>
  intro h;have h1:=Cx e;have h2:=ih h1.2;omega
theorem Rec.app{l e:List Nat}{r r':UP}{j j':Nat}(h:Rec l a k r j)(h2:Rec (l++e) r j r' j'):Rec (l++e) a k r' j':=by
 induction h with
 | stop _=>exact h2
 | go s _ ih=>exact .go (Zbd s e) (ih h2)
theorem step_end(l:List Nat)(a:UP):Y9 l a (H l)=Y:=by
 unfold Y9;rw[if_neg pA]
theorem Rec.cut{l:List Nat}{r:UP}{j:Nat}(h:Rec l a k r j):k<=(H l)->Rec (l.take j) a k r j:=by
 induction h with
 | stop e=>
  intro h;rename_i k;have:=step_end (l.take k) ‹UP›;rw[a1,Nat.min_eq_left h]at this;exact .stop this
 | go s h2 ih=>
  intro h;have h1:=Cx s;have h3:=h2.fits h1.2;exact .go (Zbe s h3.1) (ih h1.2)
def Whole(d:List Nat)(a:UP):Prop:=Rec d JN 0 a (H d)
theorem Whole.nil:Whole [] JN:=.stop (step_end [] JN)
theorem Whole.all{d:List Nat}(h:Whole d a):TJ d=(a,(H d)):=Nt h
theorem Zbf(d:List Nat){a':UP}{f:List Nat}(hb:JK a f=X a'):Y9 (d++YV f) a (H d)=X (a',(d++YV f).length):=by
 have hl:=Vp f;have e0:YV f=(H f) :: (f++(T6 (LY f)).take 4):=rfl;have hN:Vr (d++YV f) (H d)=1+(H f):=by
  unfold Vr;rw[a2,bw (am _),Nat.sub_self,e0];rfl
 have m1:((d++YV f).drop (H d)).take (1+(H f))=LY f:=by
  rw[cg];unfold YV;rw[a6 (by rw[U6];omega),al (by rw[U6];omega)]
 have m2:((d++YV f).drop ((H d)+(1+(H f)))).take 4=(T6 (LY f)).take 4:=by
  rw[<-cC,cg];unfold YV;rw[bl (by rw[U6];omega),List.drop_of_length_le (by rw[U6];omega),List.nil_append,List.take_take];rfl
 have m3:((d++YV f).drop ((H d)+1)).take (1+(H f)-1)=f:=by
  rw[<-cC,cg,e0,List.drop_succ_cons,List.drop_zero,Nat.add_sub_cancel_left,a6 (am _),al (am _)]
 unfold Y9;rw[hN,if_pos ⟨by rw[aa];omega,by rw[aa];omega,by rw[m1,m2]⟩,m3,hb];simp only[cA,aa,hl]
 congr 2
 omega
theorem ub(d f:List Nat)(a:UP){m:Nat}(hm:m<(YV f).length):Y9 (d++(YV f).take m) a (H d)=Y:=by
 have hl:=Vp f;have e0:YV f=(H f) :: (f++(T6 (LY f)).take 4):=rfl;have ht:((YV f).take m).length=m:=aad;unfold Y9;rw[if_neg];rintro⟨h1,h2,_⟩;rw[aa,ht]at h1 h2;have hN:Vr (d++(YV f).take m) (H d)=1+(H f):=by
  unfold Vr;rw[a2,bw (am _),Nat.sub_self,List.getElem?_take_of_lt pA,e0];rfl
 omega
theorem Whole.add{d f:List Nat}{a':UP}(h:Whole d a)(hb:JK a f=X a'):Whole (d++YV f) a':=
 Rec.app h (.go (Zbf d hb) (.stop (step_end _ _)))
theorem Whole.ZwO{d f:List Nat}(h:Whole d a){m:Nat}(hm:m<(YV f).length):Rec (d++(YV f).take m) JN 0 a (H d):=
 Rec.app h (.stop (ub d f a hm))
def WV:Kv->UP
 | .VN a _ _ _=>a
 | .TX a _ _=>a
 | .Zq a _ _=>a
structure TR(n:Nd):Prop where
 idle:n.up=true->n.Zs=Y->Whole n.data n.Zq/\n.Y4=(H n.data)
 busy:n.up=true->∀p,n.Zs=X p->∃d f,n.data=d++YV f/\n.Y4=(H d)/\Whole d n.Zq/\JK n.Zq f=X (WV p)
 down:n.up=false->n.Zs=Y/\n.Y4=(H n.data)/\∃a j,Rec n.data JN 0 a j
 len:(H n.data)<=100000
def Wp(n:Nd):UP:=if n.up=true then n.Zq else (TJ n.data).1
theorem Zbg(i:Nat):TR (Yu i true [] 0 JN):=by
 refine⟨fun _ _=>⟨Whole.nil,rfl⟩,fun _ p hp=>(by cases hp),fun h=>(by cases h),by simp[Yu]⟩
theorem kI(h:TR n)(hu:n.up=true){Zf:Int}(hk:0<=Zf):
  TR (Xy i n Zf)/\(Xy i n Zf).up=false/\(Wp (Xy i n Zf)=n.Zq\/∃p,n.Zs=X p/\Wp (Xy i n Zf)=WV p):=by
 have key:∀(d:List Nat) (z:Int) (a:UP) (j:Nat),(H d)<=100000->z=(H d)->Rec d JN 0 a j->TR (Yu i false d z JN)/\(Yu i false d z JN).up=false/\Wp (Yu i false d z JN)=a:=fun d z a j h1 h2 h3=>by
  refine⟨⟨fun e=>(by cases e),fun e=>(by cases e),fun _=>⟨rfl,h2,a,j,h3⟩,h1⟩,rfl,?_⟩;unfold Wp;rw[if_neg (by simp[Yu])];show (TJ d).1=a;rw[Nt h3]
 cases hp:n.Zs with
 | none=>
  obtain⟨h1,h2⟩:=h.idle hu hp;have hl:=h.len;have ec:(UQ n.data n.Y4 Zf).toNat=(H n.data):=by unfold UQ;rw[h2];split<;>omega
  have ez:UQ n.data n.Y4 Zf=(H n.data):=by unfold UQ;rw[h2];split<;>omega
  have e:Xy i n Zf=Yu i false n.data (UQ n.data n.Y4 Zf) JN:=by
   unfold Xy;rw[if_pos hu,if_pos ⟨⟨hl,pA,pA⟩,hk⟩,ec,al (am _)]
  rw[e];obtain⟨k1,k2,k3⟩:=key n.data _ n.Zq _ hl ez h1;exact⟨k1,k2,.inl k3⟩
 | some p=>
  obtain⟨d,f,h1,h2,h3,h4⟩:=h.busy hu p hp;have hl:=h.len;have vB:(H n.data)=(H d)+(YV f).length:=by rw[h1,aa]
  have c1:((H d):Int)<=UQ n.data n.Y4 Zf/\UQ n.data n.Y4 Zf<=(H n.data):=by unfold UQ;rw[h2];split<;>omega
  obtain⟨C,hC⟩:∃C:Nat,UQ n.data n.Y4 Zf=C:=⟨(UQ n.data n.Y4 Zf).toNat,pA⟩
  have e:Xy i n Zf=Yu i false (n.data.take C) C JN:=by
   unfold Xy;rw[if_pos hu,if_pos ⟨⟨hl,pA,pA⟩,hk⟩,hC];rfl
  have htl:(n.data.take C).length=C:=aad;rw[e];by_cases hw:C=(H n.data)
  .have et:n.data.take C=n.data:=al pA;rw[et];have:=h3.add h4;rw[<-h1]at this;obtain⟨k1,k2,k3⟩:=key n.data C (WV p) _ hl pA this;exact⟨k1,k2,.inr ⟨p,rfl,k3⟩⟩
  .have et:n.data.take C=d++(YV f).take (C-(H d)):=by
    rw[h1,List.take_append,al pA]
   have:=h3.ZwO (f:=f) (m:=C-(H d)) pA;rw[<-et]at this;obtain⟨k1,k2,k3⟩:=key (n.data.take C) C n.Zq _ pA pA this;exact⟨k1,k2,.inl k3⟩
theorem kJ(h:TR n)(hu:n.up=false):
  TR (started i n)/\(started i n).up=true/\(started i n).Zq=Wp n:=by
 obtain⟨h1,h2,a,j,h3⟩:=h.down hu;have hl:=h.len;have hj:=h3.fits (bA _);have ea:=Nt h3;have ZwP:=h3.cut (bA _);have J9:(n.data.take j).length=j:=aad;have ok:Y0 n.data n.Y4:=⟨hl,pA,pA⟩
 have eD:FO n.data n.Y4=n.data.take j:=by unfold FO;rw[if_pos ok,ea]
 have eN:jW n.data n.Y4=j:=by
  unfold jW;rw[if_pos ok,ea];simp only;split<;>omega
 have ok2:Y0 (n.data.take j) (j:Int):=⟨pA,pA,pA⟩
 have hw:Whole (n.data.take j) a:=by unfold Whole;rw[J9];exact ZwP
 have eo:(if Y0 (FO n.data n.Y4) (jW n.data n.Y4) then (TJ (FO n.data n.Y4)).1 else JN)=a:=by
  rw[eD,eN,if_pos ok2,hw.all]
 have e:started i n=Yu i true (n.data.take j) j a:=by
  unfold started;rw[if_neg (by rw[hu];decide),eo,eD,eN]
 rw[e];refine⟨⟨fun _ _=>⟨hw,by show (j:Int)=((n.data.take j).length:Nat);omega⟩,fun _ p hp=>(by cases hp),fun h=>(by cases h),by show (n.data.take j).length<=100000;omega⟩,rfl,?_⟩;show a=Wp n;unfold Wp;rw[if_neg (by rw[hu];decide),ea]
end Go.Proofs.YthlfaofofaphfaaGreatDoor
