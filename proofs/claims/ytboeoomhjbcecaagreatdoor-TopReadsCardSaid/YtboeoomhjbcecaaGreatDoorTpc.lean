/- What holds of every node and every letter: the invariants of one node. No program in sight. -/
import Derived.Test.YtboeoomhjbcecaaGreatDoorMdh
import Derived.Test.YtboeoomhjbcecaaGreatDoorLchks
import Derived.Test.YtboeoomhjbcecaaGreatDoorPak
namespace Go.Proofs.YtboeoomhjbcecaaGreatDoor
open Go Go.V
set_option linter.unusedSimpArgs false
set_option linter.unusedVariables false
def Wx (l:List Vt):Prop:=(∀x∈l,Ya x)∧l.Pairwise (fun a b=>a.slot<b.slot)
structure HE (a:QK):Prop where
 bal:ZQ a.p∨(a.p.r=0∧a.p.n=0)
 Xz:Wx a.l
def O9 (b:YN):Prop:=0≤b.r∧b.r≤65536
theorem bT:∀(l:List Vt) (a:Int),l.Pairwise (fun a b=>a.slot<b.slot)→(∀x∈l,a≤x.slot∧x.slot≤39)→a≤40→(l.length:Int)≤40-a:=by
 intro l
 induction l with
 | nil=>intro a _ _ h;simp;omega
 | cons x l ih=>
  intro a hp hx ha;rw[List.pairwise_cons]at hp;have h1:=hx x (by simp);have:=ih (x.slot+1) hp.2 (fun y hy=>⟨by have:=hp.1 y hy;omega,(hx y (by simp[hy])).2⟩) (by omega);simp only[List.length_cons];omega
theorem Wx.len {l:List Vt} (h:Wx l):l.length≤40:=by
 have:=bT l 0 h.2 (fun x hx=>⟨(h.1 x hx).1.1,(h.1 x hx).1.2⟩) (by omega);omega
theorem Wx.nil:Wx []:=⟨fun x hx=>by (cases hx),.nil⟩
theorem Wx.ins {l:List Vt} (h:Wx l) {v:Vt} (hv:Ya v):Wx (JP l v):=by
 unfold JP;refine⟨fun x hx=>?_,?_⟩
 ·rcases List.mem_append.1 hx with hx|hx
  ·exact h.1 x (List.mem_filter.1 hx).1
  ·rcases List.mem_cons.1 hx with rfl|hx
   ·exact hv
   ·exact h.1 x (List.mem_filter.1 hx).1
 ·rw[List.pairwise_append,List.pairwise_cons];refine⟨h.2.sublist List.filter_sublist,⟨fun y hy=>by simpa using (List.mem_filter.1 hy).2,h.2.sublist List.filter_sublist⟩,fun x hx y hy=>?_⟩;have h1:x.slot<v.slot:=by simpa using (List.mem_filter.1 hx).2
  rcases List.mem_cons.1 hy with rfl|hy
  ·exact h1
  ·have h2:v.slot<y.slot:=by simpa using (List.mem_filter.1 hy).2
   omega
theorem HE.zero:HE X4:=⟨.inr ⟨rfl,rfl⟩,Wx.nil⟩
theorem ZQ.I {b:YN} (h:ZQ b):O9 b:=⟨by have:=h.1.1;omega,h.1.2⟩
theorem HE.jV {a:QK} (h:HE a):O9 a.p:=by
 rcases h.bal with q|q
 ·exact q.I
 ·unfold O9;omega
structure Qa (C:List Cm) (l:Xj):Prop where
 kind:0≤l.kind∧l.kind≤7
 JM:0≤l.JM∧l.JM<5
 to:0≤l.to∧l.to<5
 b:O9 l.b
 slot:0≤l.v.slot∧l.v.slot<40
 vs:Wx l.vs
 cmd:l.kind=4→l.v.cm∈C
def VH {β:Type} (m:Int) (l:List (Int × β)):Prop:=(l.map (·.1)).Nodup∧∀x∈l.map (·.1),0≤x∧x<m
theorem VH.nil {β:Type} (m:Int):VH m ([]:List (Int × β)):=⟨by simp,fun x hx=>by (cases hx)⟩
theorem VH.ins {β:Type} {m:Int} {l:List (Int × β)} (h:VH m l) {k:Int} (hk:0≤k∧k<m) (v:β):VH m (ins l k v):=by
 obtain⟨h1,h2⟩:=CA (k:=k) (v:=v) h.1;refine⟨h1,fun x hx=>?_⟩;rcases h2 x hx with rfl|q
 ·exact hk
 ·exact h.2 x q
theorem jW:∀(m:Nat) (l:List Int),l.Nodup→(∀x∈l,0≤x∧x<(m:Int))→l.length≤m:=by
 intro m
 induction m with
 | zero=>
  intro l _ h
  cases l with
  | nil=>simp
  | cons x l=>have:=h x (by simp);omega
 | succ m ih=>
  intro l hn h;have h1:=ih (l.erase (m:Int)) (hn.erase _) (fun x hx=>by
   have hx':=(List.Nodup.mem_erase_iff hn).1 hx;have:=h x hx'.2;have:x≠(m:Int):=hx'.1;omega)
  have:l.length≤(l.erase (m:Int)).length+1:=by rw[List.length_erase];split<;>omega
  omega
theorem VH.len {β:Type} {m:Nat} {l:List (Int × β)} (h:VH (m:Int) l):l.length≤m:=by
 have:=jW m _ h.1 h.2
 simpa using this
structure PD (r:JF):Prop where
 b:O9 r.b
 prom:VH 5 r.prom
 vs:∀x∈r.prom,Wx x.2
 Ti:∀x∈r.Xz,VH 5 x.2
def Zhx:Bz→Prop
 | .Lf a to b vs=>HE a∧(0≤to∧to<5)∧O9 b∧Wx vs
 | .MO a to v=>HE a∧(0≤to∧to<5)∧Ya v
 | .own a vs _=>HE a∧Wx vs
structure Qb (C:List Cm) (i:Nat) (n:Nd):Prop where
 me:n.me=i
 Xr:0≤n.Xr∧n.Xr<5
 own:HE n.own
 heard:O9 n.heard
 ZB:∀p,n.ZB=some p→Zhx p
 Zj:∀r,n.Zj=some r→PD r
 known:VH 40 n.known
 log:∀j,j<n.log.length→(Yv n.known (j:Int)).isSome=true
 queue:n.queue.Nodup∧∀x∈n.queue,x∈C
 data:n.data.length≤100000
theorem Qb.Ej {C:List Cm} {i:Nat} {n:Nd} (h:Qb C i n):n.log.length≤40:=by
 have h1:=Cy n.known 0 n.log.length (fun j hj=>by simpa using h.log j hj);have h2:=h.known.len (m:=40);omega
theorem Rg {p:YN} {l:List Vt} {b:YN} (h:Yu p l b=0):ZQ b:=by
 unfold Yu at h;by_cases c1:XD p l≠0
 ·rw[if_pos c1]at h;cases h
 ·rw[if_neg c1]at h;by_cases c2:¬ZQ b
  ·rw[if_pos c2]at h;cases h
  ·simpa using c2
theorem NZ {p:YN} {l:List Vt} {x:Vt} (h:YQ p l x=0):Ya x:=by
 unfold YQ at h;by_cases c1:XD p l≠0
 ·rw[if_pos c1]at h;cases h
 ·rw[if_neg c1]at h;by_cases c2:¬Ya x
  ·rw[if_pos c2]at h;cases h
  ·simpa using c2
theorem CS {l:List Nat} {n:Int} {k:Nat} (h:JU l n k=0):l.length+(k+5)≤100000:=by
 unfold JU at h;by_cases c1:¬YU l n
 ·rw[if_pos c1]at h;cases h
 ·rw[if_neg c1]at h;by_cases c2:100000<l.length+(k+5)
  ·rw[if_pos c2]at h;cases h
  ·omega
theorem Na {l:List Nat} {n:Int} {b:YN} (h:Qi l n b=0):l.length+14≤100000:=by
 unfold Qi at h;by_cases c1:¬YU l n
 ·rw[if_pos c1]at h;cases h
 ·rw[if_neg c1]at h;by_cases c2:¬ZQ b
  ·rw[if_pos c2]at h;cases h
  ·rw[if_neg c2]at h;exact CS h
theorem CT {l:List Nat} {n:Int} {x:Vt} (h:Uc l n x=0):l.length+38≤100000:=by
 unfold Uc at h;by_cases c1:¬YU l n
 ·rw[if_pos c1]at h;cases h
 ·rw[if_neg c1]at h;by_cases c2:¬Ya x
  ·rw[if_pos c2]at h;cases h
  ·rw[if_neg c2]at h;exact CS h
theorem LH (b:YN):(Yo (X3 b)).length=14:=by rw[Uy];rfl
theorem fp (x:Vt):(Yo (QJ x)).length=38:=by rw[Uy];rfl
structure TQ (C:List Cm) (i:Nat) (n:Nd) (o:Out):Prop where
 nd:Qb C i o.n
 ls:∀l∈o.ls,Qa C l
 few:o.ls.length≤1
 ts:o.ts.length+o.n.waiting.length≤n.waiting.length
theorem TQ.same {C:List Cm} {i:Nat} {n:Nd} (h:Qb C i n):TQ C i n ⟨n,[],[]⟩:=⟨h,(fun l hl=>by cases hl),by simp,by simp⟩
theorem TQ.one {C:List Cm} {i:Nat} {n:Nd} (h:Qb C i n) {l:Xj} (hl:Qa C l):TQ C i n ⟨n,[l],[]⟩:=⟨h,fun x hx=>by
 have:x=l:=by simpa using hx
 rw[this];exact hl,by simp,by simp⟩
theorem bU {C:List Cm} {i:Nat} {n:Nd} {l:Xj} (hi:i<5) (h:Qb C i n) (hl:Qa C l):TQ C i n (Y6 n l):=by
 have Ex:0≤(n.me:Int)∧(n.me:Int)<5:=by rw[h.me];omega
 have v0:0≤Tw.slot∧Tw.slot<40:=by decide
 unfold Y6;by_cases c1:Yu n.own.p n.own.l l.b≠0
 ·rw[if_pos c1];exact TQ.one h ⟨by simp,Ex,hl.JM,h.own.jV,v0,Wx.nil,fun e=>by cases e⟩
 rw[if_neg c1];have hb:ZQ l.b:=Rg (by simpa using c1);by_cases c2:n.own.p=l.b
 ·rw[if_pos c2];exact TQ.one h ⟨by simp,Ex,hl.JM,hl.b,v0,h.own.Xz,fun e=>by cases e⟩
 rw[if_neg c2];by_cases c3:Qi n.data n.Xg l.b≠0
 ·rw[if_pos c3];exact TQ.same h
 rw[if_neg c3];have hd:=Na (by simpa using c3);refine⟨{ h with ZB:=?_,data:=?_ },(fun x hx=>by cases hx),by simp,by simp⟩
 ·intro p hp;obtain rfl:=Option.some.inj hp;exact⟨⟨.inl hb,h.own.Xz⟩,hl.JM,hb.I,h.own.Xz⟩
 ·show (n.data++Yo (X3 l.b)).length≤100000;rw[List.length_append,LH];exact hd
theorem yc {C:List Cm} {i:Nat} {n:Nd} {l:Xj} (hi:i<5) (h:Qb C i n) (hl:Qa C l):TQ C i n (asked n l):=by
 have Ex:0≤(n.me:Int)∧(n.me:Int)<5:=by rw[h.me];omega
 have v0:0≤Tw.slot∧Tw.slot<40:=by decide
 unfold asked;by_cases c1:YQ n.own.p n.own.l l.v≠0
 ·rw[if_pos c1];exact TQ.one h ⟨by simp,Ex,hl.JM,h.own.jV,v0,Wx.nil,fun e=>by cases e⟩
 rw[if_neg c1];have hv:Ya l.v:=NZ (by simpa using c1);by_cases c2:l.v∈n.own.l
 ·rw[if_pos c2];exact TQ.one h ⟨by simp,Ex,hl.JM,by unfold O9 JE;simp,hl.slot,Wx.nil,fun e=>by cases e⟩
 rw[if_neg c2];by_cases c3:Uc n.data n.Xg l.v≠0
 ·rw[if_pos c3];exact TQ.same h
 rw[if_neg c3];have hd:=CT (by simpa using c3);refine⟨{ h with ZB:=?_,data:=?_ },(fun x hx=>by cases hx),by simp,by simp⟩
 ·intro p hp;obtain rfl:=Option.some.inj hp;exact⟨⟨.inl hv.2.1,h.own.Xz.ins hv⟩,hl.JM,hv⟩
 ·show (n.data++Yo (QJ l.v)).length≤100000;rw[List.length_append,fp];exact hd
theorem rI {C:List Cm} {i:Nat} {n:Nd} {x:Cm} (h:Qb C i n) (hx:Yv n.known (n.log.length:Int)=some x):Qb C i (Wp n x)∧(TL n x).length+(Wp n x).waiting.length≤n.waiting.length:=by
 refine⟨{ h with log:=?_,queue:=?_ },?_⟩
 ·intro j hj;have hj':j<(n.log++[x]).length:=hj;show (Yv n.known (j:Int)).isSome=true;rw[List.length_append,List.length_singleton]at hj';by_cases e:j<n.log.length
  ·exact h.log j e
  ·have:j=n.log.length:=by omega
   subst this;rw[hx];rfl
 ·exact⟨h.queue.1.sublist List.filter_sublist,fun y hy=>h.queue.2 y (List.mem_filter.1 hy).1⟩
 ·show (TL n x).length+(n.waiting.erase x).length≤n.waiting.length;unfold TL;by_cases c:x∈n.waiting
  ·rw[if_pos c,List.length_erase_of_mem c];have:=List.length_pos_of_mem c;simp;omega
  ·rw[if_neg c,List.erase_of_not_mem c];simp
theorem jX {C:List Cm} {i:Nat}:∀(k:Nat) (n:Nd),Qb C i n→Qb C i (YH k n).1∧(YH k n).2.length+(YH k n).1.waiting.length≤n.waiting.length:=by
 intro k
 induction k with
 | zero=>intro n h;exact⟨h,by simp[YH]⟩
 | succ k ih=>
  intro n h;unfold YH
  cases hx:Yv n.known (n.log.length:Int) with
  | none=>exact⟨h,by simp⟩
  | some x=>
   obtain⟨h1,h2⟩:=rI h hx;obtain⟨h3,h4⟩:=ih _ h1;refine⟨h3,?_⟩;simp only[List.length_append];omega
theorem fq {C:List Cm} {i:Nat} {n:Nd} (h:Qb C i n) (s:Int) (x:Cm) (hs:0≤s∧s<40):TQ C i n (Wq n s x):=by
 have h1:Qb C i (Ud n s x):={ h with
  known:=h.known.ins hs x
  log:=fun j hj=>by
   show (Yv (ins n.known s x) (j:Int)).isSome=true;rw[JK];split
   ·rfl
   ·exact h.log j hj }
 obtain⟨h2,h3⟩:=jX ((Ud n s x).known.length+1) (Ud n s x) h1;exact⟨h2,(fun l hl=>by cases hl),by simp[Wq],h3⟩
theorem IB {β:Type}:∀{l:List (Int × β)} {k:Int} {v:β} {x:Int × β},x∈ins l k v→x.2=v∨x∈l:=by
 intro l
 induction l with
 | nil=>
  intro k v x hx;left;have:x=(k,v):=by simpa [ins] using hx
  rw[this]
 | cons y l ih=>
  intro k v x hx;obtain⟨a,b⟩:=y;unfold ins at hx;split at hx
  ·rcases List.mem_cons.1 hx with rfl|hx
   ·exact .inl rfl
   ·exact .inr (by simp[hx])
  ·rcases List.mem_cons.1 hx with rfl|hx
   ·exact .inr (by simp)
   ·rcases ih hx with q|q
    ·exact .inl q
    ·exact .inr (by simp[q])
theorem bV {C:List Cm} {i:Nat} {n:Nd} {l:Xj} (hi:i<5) (h:Qb C i n) (hl:Qa C l):TQ C i n (YE n l):=by
 unfold YE
 cases hr:n.Zj with
 | none=>exact TQ.same h
 | some r=>
  have R:=h.Zj r hr;have hs:∀r',(Lg n r l).Zj=some r'→PD r':=by
   intro r' hr';obtain rfl:=Option.some.inj hr';refine⟨R.b,R.prom,R.vs,fun x hx=>?_⟩;rcases IB hx with q|q
   ·rw[q];unfold Wr;refine VH.ins ?_ hl.JM ()
    cases hk:Yv r.Xz l.v.slot with
    | none=>exact VH.nil 5
    | some s=>exact R.Ti _ (SY hk)
   ·exact R.Ti x q
  have hv:Qb C i (Lg n r l):={ h with Zj:=hs }
  simp only;split
  ·split
   ·refine⟨{ h with Zj:=fun r' hr'=>?_ },(fun x hx=>by cases hx),by simp,by simp[Zce]⟩;obtain rfl:=Option.some.inj hr';refine⟨R.b,R.prom.ins hl.JM l.vs,fun x hx=>?_,R.Ti⟩;rcases IB hx with q|q
    ·rw[q];exact hl.vs
    ·exact R.vs x q
   ·exact TQ.same h
  ·split
   ·exact TQ.same h
   ·split
    ·have:=fq hv l.v.slot l.v.cm hl.slot;exact⟨this.nd,this.ls,this.few,this.ts⟩
    ·exact⟨hv,(fun x hx=>by cases hx),by simp,by simp[Lg]⟩
theorem Zal {C:List Cm} {i:Nat} {n:Nd} {x:Cm} (h:Qb C i n) (hx:x∈C):Qb C i (add n x):=by
 unfold add;split
 ·exact h
 ·rename_i q;refine { h with queue:=⟨?_,fun y hy=>?_⟩ }
  ·show (n.queue++[x]).Nodup;rw[List.nodup_append];refine⟨h.queue.1,by simp,fun a ha b hb e=>?_⟩;have:b=x:=by simpa using hb
   exact q (.inl (by rw[←this,←e];exact ha))
  ·have hy:y∈n.queue++[x]:=hy;rcases List.mem_append.1 hy with hy|hy
   ·exact h.queue.2 y hy
   ·have:y=x:=by simpa using hy
    rw[this];exact hx
theorem fu {C:List Cm} {i:Nat} {n:Nd} {l:Xj} (h:Qb C i n) (hl:Qa C l):Qb C i (notes n l):=by
 unfold notes;split
 ·exact { h with heard:=hl.b }
 ·exact h
theorem ye {C:List Cm} {i:Nat} {n:Nd} {l:Xj} (hi:i<5) (h:Qb C i n) (hl:Qa C l):TQ C i n (Ws n l):=by
 have Ex:0≤(n.me:Int)∧(n.me:Int)<5:=by rw[h.me];omega
 have hn:=fu h hl;have hw:(notes n l).waiting=n.waiting:=by unfold notes;split<;>rfl
 unfold Ws;split
 ·next y _=>
  refine⟨hn,fun x hx=>?_,by simp,by simp[hw]⟩;have:x=⟨6,n.me,l.JM,JE,T8 l.v.slot JE y,[]⟩:=by simpa using hx
  rw[this];exact⟨by simp,Ex,hl.JM,by unfold O9 JE;simp,hl.slot,Wx.nil,fun e=>by cases e⟩
 ·exact⟨hn,(fun x hx=>by cases hx),by simp,by simp[hw]⟩
theorem IC {C:List Cm} {i:Nat} {n:Nd} {l:Xj} (hi:i<5) (h:Qb C i n) (hl:Qa C l):TQ C i n (handle n l):=by
 have hw:(notes n l).waiting=n.waiting:=by unfold notes;split<;>rfl
 unfold handle;split
 ·exact bU hi h hl
 split
 ·exact bV hi h hl
 split
 ·exact yc hi h hl
 split
 ·rename_i e;refine⟨Zal h (hl.cmd e),(fun x hx=>by cases hx),by simp,?_⟩;have:(add n l.v.cm).waiting=n.waiting:=by unfold add;split<;>rfl
  simp[this]
 split
 ·exact ye hi h hl
 split
 ·exact fq h _ _ hl.slot
 ·exact⟨fu h hl,(fun x hx=>by cases hx),by simp,by simp[hw]⟩
theorem Qb.inbox {C:List Cm} {i:Nat} {n:Nd} (h:Qb C i n) (k:List Xj):Qb C i { n with inbox:=k }:={ h with }
theorem fv {C:List Cm} {i:Nat} (hi:i<5):∀(k:List Xj) (n:Nd),Qb C i n→(∀l∈k,Qa C l) →
  Qb C i (drain n k).n∧(∀l∈(drain n k).ls,Qa C l)∧(∀l∈(drain n k).n.inbox,Qa C l)∧(drain n k).ls.length+(drain n k).n.inbox.length≤k.length∧(drain n k).ts.length+(drain n k).n.waiting.length≤n.waiting.length:=by
 intro k
 induction k with
 | nil=>
  intro n h _;unfold drain;exact⟨h.inbox [],(fun x hx=>by cases hx),(fun x hx=>by cases hx),by simp,by simp⟩
 | cons l k ih=>
  intro n h hk;unfold drain;split
  ·exact⟨h.inbox _,(fun x hx=>by cases hx),hk,by simp,by simp⟩
  ·have o:=IC hi (h.inbox k) (hk l (by simp));obtain⟨h1,h2,h3,h4,h5⟩:=ih _ o.nd (fun x hx=>hk x (by simp[hx]));have ots:=o.ts;have of:=o.few;refine⟨h1,fun x hx=>?_,h3,?_,?_⟩
   ·rcases List.mem_append.1 hx with hx|hx
    ·exact o.ls x hx
    ·exact h2 x hx
   ·simp only[List.length_append,List.length_cons];omega
   ·simp only[List.length_append];have:({ n with inbox:=k }:Nd).waiting=n.waiting:=rfl;rw[this]at ots;omega
theorem Rh:∀{l C:List Cm},l.Nodup→(∀x∈l,x∈C)→l.length≤C.length:=by
 intro l
 induction l with
 | nil=>intro C _ _;simp
 | cons x l ih=>
  intro C hn hs;rw[List.nodup_cons]at hn;have hx:=hs x (by simp);have h1:=ih (C:=C.erase x) hn.2 (fun y hy=>by
   have YA:y≠x:=fun e=>hn.1 (by rw[←e];exact hy);exact (List.mem_erase_of_ne YA).2 (hs y (by simp[hy])))
  rw[List.length_erase_of_mem hx]at h1;have:=List.length_pos_of_mem hx;simp only[List.length_cons];omega
theorem Qb.hand {C:List Cm} {i:Nat} {n:Nd} {l:Xj} (h:Qb C i n) (hl:Qa C l) (hC:C.length≤100000) (hw:n.waiting.length≤100000) {f t:Nat} (hf:f≤100000000000) (ht:t≤1000000):bK n l f t:=by
 have HD:=h.Ej;have kS:=h.known.len (m:=40);have hq:n.queue.length≤C.length:=Rh h.queue.1 h.queue.2;refine⟨hl.kind,by omega,by have:=h.own.Xz.len;omega,by have:=h.data;omega,by omega,by omega,by omega,by omega,by omega,fun r s hr=>?_⟩
 cases hk:Yv r.Xz s with
 | none=>simp
 | some x=>
  have:=(h.Zj r hr).Ti _ (SY hk);have:x.length≤5:=this.len (m:=5);simp only[Option.getD_some];omega
theorem Qb.dut {C:List Cm} {i:Nat} {n:Nd} (h:Qb C i n) (hC:C.length≤100000) {f:Nat} (hf:f≤100000000000):rE n f:=by
 have HD:=h.Ej;have hq:n.queue.length≤C.length:=Rh h.queue.1 h.queue.2;refine⟨by omega,by have:=h.own.Xz.len;omega,by have:=h.data;omega,fun r hr=>?_,by omega,by omega,h.Xr⟩;have R:=h.Zj r hr;have hp:r.prom.length≤5:=R.prom.len (m:=5);refine⟨fun x hx=>by have:=(R.vs x hx).len;omega,fun x hx v hv=>?_,by omega⟩;have:=((R.vs x hx).1 v hv).1.2;omega
theorem rK {C:List Cm} {i:Nat} (hi:i<5) (hC:C.length≤100000):∀(k:List Xj) (n:Nd),Qb C i n→(∀l∈k,Qa C l)→n.waiting.length≤100000→∀f t,f+k.length≤100000000000→t+n.waiting.length≤1000000→Rd n k f t:=by
 intro k
 induction k with
 | nil=>intro n _ _ _ f t _ _;exact trivial
 | cons l k ih=>
  intro n h hk hw f t hf ht;simp only[List.length_cons]at hf;unfold Rd;by_cases hp:n.ZB.isSome=true
  ·exact .inl hp
  ·have o:=IC hi (h.inbox k) (hk l (by simp));have ots:=o.ts;have of:=o.few;have:({ n with inbox:=k }:Nd).waiting=n.waiting:=rfl;rw[this]at ots;exact .inr ⟨(h.inbox k).hand (hk l (by simp)) hC hw (by omega) (by omega),ih _ o.nd (fun x hx=>hk x (by simp[hx])) (by omega) _ _ (by omega) (by omega)⟩
theorem rL {C:List Cm} {i:Nat} {n:Nd} (hi:i<5) (hC:C.length≤100000) (h:Qb C i n) (hk:∀l∈n.inbox,Qa C l) (hw:n.waiting.length≤100000) {f t:Nat} (hf:f+n.inbox.length≤100000000000) (ht:t+n.waiting.length≤1000000):bL n f t:=by
 obtain⟨h1,h2,h3,h4,h5⟩:=fv hi n.inbox n h hk;exact⟨by have:=h.data;omega,by omega,fun _=>rK hi hC n.inbox n h hk hw f t hf ht,fun _ _=>h1.dut hC (by omega)⟩
theorem yf {n:Nd} {r:JF} {x:Cm} (R:PD r):PD (Wt n r x):=by
 unfold Wt;split
 ·exact⟨R.b,R.prom,R.vs,R.Ti⟩
 ·exact R
theorem jY {n:Nd}:∀(l:List Cm) (r:JF),PD r→PD (JN n r l):=by
 intro l
 induction l with
 | nil=>intro r R;exact R
 | cons x l ih=>intro r R;exact ih _ (yf R)
theorem yg {n:Nd} {r:JF} (R:PD r):PD (UC n r):=by
 unfold UC;refine jY _ _ ?_;split
 ·exact R
 ·exact⟨R.b,R.prom,R.vs,R.Ti⟩
theorem Ek:O9 JE:=by unfold O9 JE;simp
theorem ZcH {C:List Cm} {i:Nat} {n:Nd} {r:JF} (hi:i<5) (h:Qb C i n) (R:PD r):Qb C i (QY n r).n∧(∀l∈(QY n r).ls,Qa C l)∧(QY n r).n.inbox=n.inbox∧(QY n r).n.waiting=n.waiting:=by
 have Ex:0≤(n.me:Int)∧(n.me:Int)<5:=by rw[h.me];omega
 have v0:0≤Tw.slot∧Tw.slot<40:=by decide
 unfold QY;split
 ·split
  ·exact⟨h,(fun x hx=>by cases hx),rfl,rfl⟩
  ·rename_i hd;have hd:=Na (by simpa using hd);refine⟨{ h with ZB:=?_,data:=?_ },(fun x hx=>by cases hx),rfl,rfl⟩
   ·intro p hp;obtain rfl:=Option.some.inj hp;by_cases c:Yu n.own.p n.own.l r.b=0
    ·simp only[c,if_true];exact⟨⟨.inl (Rg c),h.own.Xz⟩,h.own.Xz⟩
    ·simp only[c,if_false];exact⟨HE.zero,Wx.nil⟩
   ·show (n.data++Yo (X3 r.b)).length≤100000;rw[List.length_append,LH];exact hd
 ·split
  ·refine⟨h,fun l hl=>?_,rfl,rfl⟩;unfold NU at hl;simp only[List.mem_flatMap,List.mem_range]at hl;obtain⟨m,hm,hl⟩:=hl;split at hl
   ·have:l=⟨0,n.me,m,r.b,Tw,[]⟩:=by simpa using hl
    rw[this];exact⟨by simp,Ex,by simp only;omega,R.b,v0,Wx.nil,fun e=>by cases e⟩
   ·cases hl
  ·refine⟨{ h with Zj:=fun r' hr'=>?_ },fun l hl=>?_,rfl,rfl⟩
   ·obtain rfl:=Option.some.inj hr';exact yg R
   ·unfold OS at hl;simp only[List.mem_flatMap,List.mem_range]at hl;obtain⟨s,hs,hl⟩:=hl;unfold WL at hl;split at hl
    ·split at hl
     ·simp only[List.mem_flatMap,List.mem_range]at hl;obtain⟨m,hm,hl⟩:=hl;unfold Px at hl;split at hl
      ·next x _ _ _=>
       have:l=⟨2,n.me,m,JE,T8 s (UC n r).b x,[]⟩:=by simpa using hl
       rw[this];exact⟨by simp,Ex,by simp only;omega,Ek,by simp only[T8];omega,Wx.nil,fun e=>by cases e⟩
      ·cases hl
     ·cases hl
    ·cases hl
theorem fw {C:List Cm} {i:Nat} {n:Nd} (h:Qb C i n):Qb C i (still n)∧(still n).inbox=n.inbox∧(still n).waiting=n.waiting:=by
 unfold still;split
 ·split
  ·exact⟨{ h with Zj:=fun r hr=>by cases hr },rfl,rfl⟩
  ·exact⟨h,rfl,rfl⟩
 ·exact⟨h,rfl,rfl⟩
theorem yh {C:List Cm} {i:Nat} {n:Nd} (hi:i<5) (h:Qb C i n):Qb C i (YI n).n∧(∀l∈(YI n).ls,Qa C l)∧(YI n).n.inbox=n.inbox∧(YI n).n.waiting=n.waiting:=by
 have Ex:0≤(n.me:Int)∧(n.me:Int)<5:=by rw[h.me];omega
 unfold YI;split
 ·next r hr=>exact ZcH hi h (h.Zj r hr)
 ·split
  ·rename_i q;refine⟨h,fun l hl=>?_,rfl,rfl⟩;unfold Tf at hl;simp only[List.mem_map]at hl;obtain⟨x,hx,rfl⟩:=hl;have hb:ZQ n.own.p:=by
    rcases h.own.bal with e|e
    ·exact e
    ·have:=q.1;omega
   exact⟨by simp,Ex,by simp only;have:=hb.2;omega,Ek,by simp[T8],Wx.nil,fun _=>h.queue.2 x hx⟩
  ·exact⟨h,(fun x hx=>by cases hx),rfl,rfl⟩
theorem yi {C:List Cm} {i:Nat} {n:Nd} (h:Qb C i n):O9 (UM n):=by
 unfold UM;split
 ·exact h.heard
 ·exact h.own.jV
theorem rM {C:List Cm} {i:Nat} {n:Nd} (hi:i<5) (hC:C.length≤100000) (h:Qb C i n):Qb C i (VA n).n∧(∀l∈(VA n).ls,Qa C l)∧(VA n).n.inbox=n.inbox∧(VA n).n.waiting=n.waiting∧(VA n).ls.length≤100201∧(VA n).ts=[]:=by
 obtain⟨s1,s2,s3⟩:=fw h;obtain⟨d1,d2,d3,d4⟩:=yh hi s1;have hq:(still n).queue.length≤C.length:=Rh s1.queue.1 s1.queue.2;have hls:=CK (still n);unfold VA;split
 ·exact⟨d1,d2,by rw[d3,s2],by rw[d4,s3],by omega,(PC _).2.2.2.2.2⟩
 ·have tt:0≤((YI (still n)).n.Xr+1)%5∧((YI (still n)).n.Xr+1)%5<5:=by omega
  have t1:Qb C i (Qg (YI (still n)).n):={ d1 with Xr:=tt }
  have Ex:0≤((Qg (YI (still n)).n).me:Int)∧((Qg (YI (still n)).n).me:Int)<5:=by rw[t1.me];omega
  refine⟨t1,fun l hl=>?_,by show (YI (still n)).n.inbox=_;rw[d3,s2],by show (YI (still n)).n.waiting=_;rw[d4,s3],?_,rfl⟩
  ·rcases List.mem_append.1 hl with hl|hl
   ·exact d2 l hl
   ·unfold Vz at hl;split at hl
    ·rename_i q;have:l=⟨5,(Qg (YI (still n)).n).me,(Qg (YI (still n)).n).Xr,UM (Qg (YI (still n)).n),T8 (Qg (YI (still n)).n).log.length JE By,[]⟩:=by simpa using hl
     rw[this];exact⟨by simp,Ex,t1.Xr,yi t1,by simp only[T8];have:=q.2;omega,Wx.nil,fun e=>by cases e⟩
    ·cases hl
  ·have:(Vz (Qg (YI (still n)).n)).length≤1:=by unfold Vz;split<;>simp
   simp only[List.length_append];omega
theorem CU {C:List Cm} {i:Nat} {n:Nd} (h:Qb C i n):Qb C i (synced n):=by
 refine { h with ZB:=(fun p hp=>by cases hp),data:=?_ };show (if YU n.data n.Xg then n.data else []).length≤100000;split
 ·exact h.data
 ·simp
theorem CV {C:List Cm} {i:Nat} {n:Nd} {p:Bz} (hi:i<5) (h:Qb C i n) (P:Zhx p):Qb C i (finish n p).n∧(∀l∈(finish n p).ls,Qa C l)∧(finish n p).n.inbox=n.inbox∧(finish n p).n.waiting=n.waiting∧(finish n p).ls.length≤1∧(finish n p).ts=[]:=by
 have Ex:0≤(n.me:Int)∧(n.me:Int)<5:=by rw[h.me];omega
 have v0:0≤Tw.slot∧Tw.slot<40:=by decide
 cases p with
 | Lf a to b vs=>
  obtain⟨p1,p2,p3,p4⟩:=P;refine⟨{ h with own:=p1 },fun l hl=>?_,rfl,rfl,by simp[finish],rfl⟩;have:l=⟨1,n.me,to,b,Tw,vs⟩:=by simpa [finish] using hl
  rw[this];exact⟨by simp,Ex,p2,p3,v0,p4,fun e=>by cases e⟩
 | MO a to v=>
  obtain⟨p1,p2,p3⟩:=P;refine⟨{ h with own:=p1 },fun l hl=>?_,rfl,rfl,by simp[finish],rfl⟩;have:l=⟨3,n.me,to,JE,v,[]⟩:=by simpa [finish] using hl
  rw[this];exact⟨by simp,Ex,p2,Ek,by have:=p3.1;simp only;omega,Wx.nil,fun e=>by cases e⟩
 | own a vs cur=>
  obtain⟨p1,p2⟩:=P;refine⟨{ h with own:=p1,Zj:=fun r hr=>?_ },(fun x hx=>by cases hx),rfl,rfl,by simp[finish],rfl⟩;have hr:(if cur=true then n.Zj.map (fun r=>{ r with prom:=ins r.prom n.me vs }) else n.Zj)=some r:=hr;split at hr
  ·rw[Option.map_eq_some_iff]at hr;obtain⟨r0,h0,rfl⟩:=hr;have R:=h.Zj r0 h0;refine⟨R.b,R.prom.ins Ex vs,fun x hx=>?_,R.Ti⟩;rcases IB hx with q|q
   ·rw[q];exact p2
   ·exact R.vs x q
  ·exact h.Zj r hr
theorem ZcI {C:List Cm} {i:Nat} {n:Nd} (hi:i<5) (hC:C.length≤100000) (h:Qb C i n) (hk:∀l∈n.inbox,Qa C l) :
  Qb C i (step n).n∧(∀l∈(step n).ls,Qa C l)∧(∀l∈(step n).n.inbox,Qa C l)∧(step n).ls.length+(step n).n.inbox.length≤n.inbox.length+100201∧(step n).ts.length+(step n).n.waiting.length≤n.waiting.length:=by
 unfold step;split
 ·cases hp:n.ZB with
  | some p=>
   obtain⟨f1,f2,f3,f4,f5,f6⟩:=CV hi (CU h) (h.ZB p hp);refine⟨f1,f2,by simp only;rw[f3];exact hk,?_,?_⟩
   ·simp only;rw[f3];show _+n.inbox.length≤_;omega
   ·simp only;rw[f4,f6];show 0+n.waiting.length≤_;omega
  | none=>
   obtain⟨d1,d2,d3,d4,d5⟩:=fv hi n.inbox n h hk;simp only;split
   ·exact⟨d1,d2,d3,by omega,d5⟩
   ·obtain⟨e1,e2,e3,e4,e5,e6⟩:=rM hi hC d1;refine⟨e1,fun l hl=>?_,by simp only;rw[e3];exact d3,?_,?_⟩
    ·rcases List.mem_append.1 hl with hl|hl
     ·exact d2 l hl
     ·exact e2 l hl
    ·simp only[List.length_append];rw[e3];omega
    ·simp only;rw[e4,e6,List.append_nil];exact d5
 ·exact⟨h,(fun x hx=>by cases hx),hk,by simp,by simp⟩
theorem ZcJ {a a':QK} {b:List Nat} (h:XE a b=some a') (ha:HE a):HE a':=by
 unfold XE at h;split at h
 ·split at h
  ·rename_i q
   cases h
   exact⟨.inl (Rg q),ha.Xz⟩
  ·cases h
 ·split at h
  ·split at h
   ·cases h
   ·split at h
    ·rename_i q
     cases h
     have hv:=NZ q;exact⟨.inl hv.2.1,ha.Xz.ins hv⟩
    ·cases h
  ·cases h
theorem yj (l:List Nat):∀(f:Nat) (a:QK) (k:Nat),HE a→HE (Ii l f a k).1:=by
 intro f
 induction f with
 | zero=>intro a k h;exact h
 | succ f ih=>
  intro a k h;unfold Ii
  cases hs:Yp l a k with
  | none=>exact h
  | some x=>
   refine ih _ _ ?_;unfold Yp at hs;split at hs
   ·rw[Option.map_eq_some_iff]at hs;obtain⟨y,hy,rfl⟩:=hs;exact ZcJ hy h
   ·cases hs
theorem rN (l:List Nat):HE (Wu l).1:=yj l _ _ _ HE.zero
theorem LJ {C:List Cm} {i:Nat} {up:Bool} {data:List Nat} {Xg:Int} {own:QK} (hd:data.length≤100000) (ho:HE own):Qb C i (blank i up data Xg own):=
 ⟨rfl,by unfold blank;simp,ho,Ek,(fun p hp=>by cases hp),(fun r hr=>by cases hr),VH.nil 40,(fun j hj=>by cases hj),⟨by simp[blank],(fun x hx=>by cases hx)⟩,hd⟩
theorem jZ {C:List Cm} {i:Nat} {n:Nd} (h:Qb C i n) (Zd:Int):Qb C i (crashed i n Zd)∧((crashed i n Zd).inbox=[]∧(crashed i n Zd).waiting=[]∨crashed i n Zd=n):=by
 unfold crashed;split
 ·split
  ·refine⟨LJ ?_ HE.zero,.inl ⟨rfl,rfl⟩⟩;have:=h.data;rw[List.length_take];omega
  ·exact⟨LJ (by simp) HE.zero,.inl ⟨rfl,rfl⟩⟩
 ·exact⟨h,.inr rfl⟩
theorem GL {C:List Cm} {i:Nat} {n:Nd} (h:Qb C i n):Qb C i (started i n)∧((started i n).inbox=[]∧(started i n).waiting=[]∨started i n=n):=by
 unfold started;split
 ·exact⟨h,.inr rfl⟩
 ·refine⟨LJ ?_ ?_,.inl ⟨rfl,rfl⟩⟩
  ·unfold Ij;have:=h.data;split
   ·rw[List.length_take];omega
   ·simp
  ·split
   ·exact rN _
   ·exact HE.zero
theorem rO {C:List Cm} {i:Nat} {n:Nd} (h:Qb C i n):Qb C i (lead n)∧(lead n).inbox=n.inbox∧(lead n).waiting=n.waiting:=by
 unfold lead;split
 ·exact⟨h,rfl,rfl⟩
 ·rename_i q;refine⟨{ h with ZB:=?_,Zj:=fun r hr=>?_ },rfl,rfl⟩
  ·intro p hp;have hp:Xo n.ZB=some p:=hp
   cases hn:n.ZB with
   | none=>rw[hn]at hp;cases hp
   | some p0=>
    have P:=h.ZB p0 hn;rw[hn]at hp
    cases p0 with
    | Lf a to b vs=>cases hp;exact P
    | MO a to v=>cases hp;exact P
    | own a vs cur=>cases hp;exact P
  ·obtain rfl:=Option.some.inj hr;refine⟨⟨?_,?_⟩,VH.nil 5,(fun x hx=>by cases hx),(fun x hx=>by cases hx)⟩
   ·have h1:=h.own.jV.1;show 0≤(XF n).r;unfold XF;simp only;split<;>omega
   ·have:¬65536<(XF n).r:=fun e=>q (.inr e);show (XF n).r≤65536;omega
def PG (f:Nat→Nat):Nat:=f 0+f 1+f 2+f 3+f 4
theorem rP (f:Nat→Nat) (i a:Nat) (hi:i<5):PG (fun j=>if j=i then a else f j)+f i=PG f+a:=by
 unfold PG
 match i,hi with
 | 0,_=>simp;omega
 | 1,_=>simp;omega
 | 2,_=>simp;omega
 | 3,_=>simp;omega
 | 4,_=>simp;omega
theorem fy (f:Nat→Nat) (i:Nat) (hi:i<5):f i≤PG f:=by
 unfold PG
 match i,hi with
 | 0,_=>omega
 | 1,_=>omega
 | 2,_=>omega
 | 3,_=>omega
 | 4,_=>omega
structure WI (C:List Cm) (k:Nat) (w:Wd):Prop where
 nd:∀i,i<5→Qb C i (w.nodes i)
 PM:∀i,i<5→∀l∈(w.nodes i).inbox,Qa C l
 LM:∀l∈w.Zn,Qa C l
 room:w.Zn.length+PG (fun i=>(w.nodes i).inbox.length)≤k*100300
 wait:w.told.length+PG (fun i=>(w.nodes i).waiting.length)≤k
 bad:∀i,0≤w.bad i∧w.bad i≤k
theorem Nb (w:Wd) (i:Nat) (n:Nd) (g:Nd→Nat) (hi:i<5):PG (fun j=>g (if j=i then n else w.nodes j))+g (w.nodes i)=PG (fun j=>g (w.nodes j))+g n:=by
 have:=rP (fun j=>g (w.nodes j)) i (g n) hi;have e:(fun j=>g (if j=i then n else w.nodes j))=(fun j=>if j=i then g n else g (w.nodes j)):=by
  funext j;split<;>rfl
 rw[e];exact this
theorem WI.out {C:List Cm} {k:Nat} {w:Wd} (h:WI C k w) {i:Nat} (hi:i<5) {o:Out} (h1:Qb C i o.n) (h2:∀l∈o.ls,Qa C l) (h3:∀l∈o.n.inbox,Qa C l) (h4:o.ls.length+o.n.inbox.length≤(w.nodes i).inbox.length+100300) (h5:o.ts.length+o.n.waiting.length≤(w.nodes i).waiting.length+1):WI C (k+1) (w.out i o):=by
 unfold Wd.out;refine⟨fun j hj=>?_,fun j hj l hl=>?_,fun l hl=>?_,?_,?_,fun j=>by have:=h.bad j;simp only;omega⟩
 ·by_cases e:j=i
  ·subst e;simpa using h1
  ·simp only[if_neg e];exact h.nd j hj
 ·by_cases e:j=i
  ·subst e;simp only[if_true]at hl;exact h3 l hl
  ·simp only[if_neg e]at hl;exact h.PM j hj l hl
 ·rcases List.mem_append.1 hl with hl|hl
  ·exact h.LM l hl
  ·exact h2 l hl
 ·have:=Nb w i o.n (fun n=>n.inbox.length) hi;have hr:=h.room;simp only[List.length_append]at this ⊢;omega
 ·have:=Nb w i o.n (fun n=>n.waiting.length) hi;have hr:=h.wait;simp only[List.length_append]at this ⊢;omega
theorem Vj (w:Wd) (i:Nat) (n:Nd):w.set i n=w.out i ⟨n,[],[]⟩:=by
 unfold Wd.set Wd.out;simp
theorem WI.more {C:List Cm} {k:Nat} {w:Wd} (h:WI C k w):WI C (k+1) w:=
 ⟨h.nd,h.PM,h.LM,Nat.le_trans h.room (Nat.mul_le_mul_right _ (Nat.le_succ k)),Nat.le_trans h.wait (Nat.le_succ k),fun i=>⟨(h.bad i).1,by have:=(h.bad i).2;omega⟩⟩
theorem WI.ok {C:List Cm} {k:Nat} {w:Wd} (h:WI C k w) (hC:C.length≤100000) (hk:k≤100000):WOk w:=by
 have hr:=h.room;have hw:=h.wait;have RW:∀i,i<5→(w.nodes i).inbox.length+w.Zn.length≤10030000000:=fun i hi=>by
  have:(w.nodes i).inbox.length≤_:=fy (fun i=>(w.nodes i).inbox.length) i hi;omega
 have LQ:∀i,i<5→(w.nodes i).waiting.length+w.told.length≤100000:=fun i hi=>by
  have:(w.nodes i).waiting.length≤_:=fy (fun i=>(w.nodes i).waiting.length) i hi;omega
 refine⟨fun i hi=>(h.nd i hi).me,fun i hi=>rL hi hC (h.nd i hi) (h.PM i hi) (by have:=LQ i hi;omega) (by have:=RW i hi;omega) (by have:=LQ i hi;omega),fun i hi=>?_,fun i hi=>?_,fun i hi=>?_,fun i hi=>?_,fun i hi=>?_,?_,fun i hi=>?_,fun i hi=>?_,fun i hi r hr=>?_,fun l hl=>(h.LM l hl).to,?_⟩
 ·have:=Rh (h.nd i hi).queue.1 (h.nd i hi).queue.2;omega
 ·have:=(h.nd i hi).Ej;omega
 ·have:=LQ i hi;omega
 ·have:=RW i hi;omega
 ·have:=(h.nd i hi).data;omega
 ·have:=LQ 0 (by omega);omega
 ·have:=h.bad i;omega
 ·have h1:=(h.nd i hi).own.jV;have h2:=(h.nd i hi).heard;unfold O9 at h1 h2;omega
 ·have h1:=((h.nd i hi).Zj r hr).b;unfold O9 at h1;omega
 ·have:=RW 0 (by omega);omega
set_option maxRecDepth 100000
set_option maxHeartbeats 8000000 in
theorem ZcK (T:World) (h:Hp) (o:Ow) (wb:Nat) (Yb:Nat→Nat) (YO:WA) (w:Wd) (a:Ac) (dv:Value) (d:UE o h) (A:Ju o h wb Yb YO w) (ok:WOk w) (hk:1≤a.kind∧a.kind≤9) (hi:a.node<5) (iv:VC o h dv a.data) (tI:a.data.length≤140737488355328) (tb:BA o h) :
  Zc Tryz.prog T 20 #[Zp wb,.agg (To a.kind a.node a.at' a.Zd dv).toArray] h fun v' h'=>∃o' XA ZqQ,Kp VG o h o' h'∧Ju o' h' wb ZqQ XA (act w a):=by
 obtain⟨pd,cd,hdv,QO⟩:=iv.1.fits;have Cl:VR dv:=by rw[hdv];exact QO
 subst hdv;refine Zc.Zk (args:=[_,_]) Tryz.func20 rfl rfl rfl rfl ?_;unfold Zp To;obtain⟨h1,YK⟩:=Zx (h.push (.cells (To a.kind a.node a.at' a.Zd (.slice pd a.data.length cd)).toArray 58):Hp);have k1:Kp QM o h o h1:=by rw[YK];exact ZY d _
 have x3:ZR o h1 h.size (.cells (To a.kind a.node a.at' a.Zd (.slice pd a.data.length cd)).toArray 58):=⟨d _ (Nat.le_refl _),by rw[YK];exact Zb⟩
 have e0:=YK.symm;unfold To at e0;have A1:=A.still k1;have tb1:=tb.Zd k1;have R1:=Y8 A1.wd.ZG.2;have Rn:=R1.nodes;obtain⟨b,off,c,hn,hc5,hb,O3⟩:=Ww A1.wd;rw[hn]at Rn;have Ed:=Za A1.wd.ZG.2;have q0:hc h1 ⟨h.size,0,none⟩=some (.int .i64 a.kind):=Zh x3.2;have q1:hc h1 ⟨h.size,1,none⟩=some (.int .i64 a.node):=Zh x3.2;have q2:hc h1 ⟨h.size,2,none⟩=some (.int .i64 a.at'):=Zh x3.2;have q3:hc h1 ⟨h.size,3,none⟩=some (.int .i64 a.Zd):=Zh x3.2;have q4:hc h1 ⟨h.size,4,none⟩=some (.slice pd a.data.length cd):=Zh x3.2;have l3:=Za x3.2;have ri:=O3 a.node hi;unfold Zp at ri;have dS:(a.node:Int)<5:=by omega
 obtain⟨na,N1⟩:=A1.nd a.node hi;have WD:=Za N1.ZG.2;have xq:=iv.Zd k1;have Iw:a.kind=1∨a.kind=2∨a.kind=3∨(a.kind=4∨a.kind=5∨a.kind=6)∨a.kind=7∨a.kind=8∨a.kind=9:=by omega
 rcases Iw with e|e|e|e|e|e|e
 ·-- a command
  have ea:act w a=Py w a.node a.data:=by unfold act;rw[if_pos e]
  rw[ea];rw[e]at q0;have cs:=jT T h1 o wb Yb YO w a.node a.data (.slice pd a.data.length cd) k1.ZX A1 hi (ok.me _ hi) xq Cl tI tb1 (by have:=ok.queue _ hi;omega) (by have:=ok.log _ hi;omega) (by have:=ok.waiting _ hi;omega) (by have:=ok.told;omega) (ok.bad _ hi);unfold Zp at cs;simp -implicitDefEqProofs only[go_sem,↓reduceIte,e0,q0];refine VS.z (h1.size) [11] (.p 0 (.p 1 (.p 2 (.p 3 (.q 4 (.p 5 (.q 6 (.p 7 (.q 8 (.p 9 (.q 10 (.w 11 .nil)))))))))))) mixed (by kernel_rfl) ?_;simp -implicitDefEqProofs only[go_sem,↓reduceIte,Rn,q1,q4,Ed,l3,hb,dS,ri];refine cs.use ?_;rintro v' g ⟨o',XA,kk,A'⟩;simp -implicitDefEqProofs only[go_sem,↓reduceIte];exact⟨o',XA,Yb,(Ye k1).trans kk,A'⟩
 ·-- to lead
  have ea:act w a=w.set a.node (lead (w.nodes a.node)):=by unfold act;rw[if_neg (by omega),if_pos e]
  rw[ea];rw[e]at q0;have cs:=xX T h1 o wb a.node (Yb a.node) na (w.nodes a.node) k1.ZX N1 (ok.ZqN _ hi) (ok.rgn _ hi);unfold Zp at cs;simp -implicitDefEqProofs only[go_sem,↓reduceIte,e0,q0];refine VS.z (h1.size) [9] (.p 0 (.p 1 (.p 2 (.p 3 (.q 4 (.p 5 (.q 6 (.p 7 (.q 8 (.w 9 .nil)))))))))) mixed (by kernel_rfl) ?_;simp -implicitDefEqProofs only[go_sem,↓reduceIte,Rn,q1,Ed,l3,hb,dS,ri];refine cs.use ?_;rintro v' g ⟨o',a',kk,N'⟩;simp -implicitDefEqProofs only[go_sem,↓reduceIte];exact⟨o',YO,Yb,(Ye k1).trans (Ye kk),A1.Xr (kk.mono fun t q=>.inr (.inr (.inr q))) N' (A1.wd.Zd kk fun t q e=>by rw[q]at e;cases e)⟩
 ·-- a step
  have ea:act w a=w.out a.node (step (w.nodes a.node)):=by unfold act;rw[if_neg (by omega),if_neg (by omega),if_pos e]
  rw[ea];rw[e]at q0;have cs:=rF T h1 o wb a.node (Yb a.node) Yb na (w.nodes a.node) YO w.Zn w.bad w.told k1.ZX N1 A1.wd tb1 (ok.step _ hi);unfold Zp at cs;simp -implicitDefEqProofs only[go_sem,↓reduceIte,e0,q0];refine VS.z (h1.size) [9] (.p 0 (.p 1 (.p 2 (.p 3 (.q 4 (.p 5 (.q 6 (.p 7 (.q 8 (.w 9 .nil)))))))))) mixed (by kernel_rfl) ?_;simp -implicitDefEqProofs only[go_sem,↓reduceIte,Rn,q1,Ed,l3,hb,dS,ri];refine cs.use ?_;rintro v' g ⟨o',a',XA,kk,N',W'⟩;simp -implicitDefEqProofs only[go_sem,↓reduceIte];exact⟨o',XA,Yb,(Ye k1).trans (Ye kk),A1.Xr kk N' W'⟩
 ·-- a letter
  have ea:act w a=pick w a.at' (decide (a.kind≠5)) (decide (a.kind=6)):=by unfold act;rw[if_neg (by omega),if_neg (by omega),if_neg (by omega),if_pos e]
  rw[ea];have cs:=rG T h1 o wb Yb YO w a.at' (decide (a.kind≠5)) (decide (a.kind=6)) k1.ZX A1 ok.to (by have:=ok.room;omega) (fun j hj=>by have:=ok.inbox j hj;omega);unfold Zp at cs;rcases e with e|e|e
  all_goals
   rw[e]at q0 cs ⊢;rw[e]at e0;simp -implicitDefEqProofs only[go_sem,↓reduceIte,e0,q0,q2];refine cs.use ?_;rintro v' g ⟨o',XA,kk,A'⟩;simp -implicitDefEqProofs only[go_sem,↓reduceIte];exact⟨o',XA,Yb,(Ye k1).trans kk,A'⟩
 ·-- all ZkP
  have ea:act w a=w.Zn.foldl WC { w with Zn:=[] }:=by unfold act;rw[if_neg (by omega),if_neg (by omega),if_neg (by omega),if_neg (by omega),if_pos e]
  rw[ea];rw[e]at q0;have Ys:=ok.room;obtain⟨pf,cf,hf,hfc⟩:=Tn A1.wd.Zn;have Rf:=R1.Zn;rw[hf]at Rf;obtain⟨g2,w2,W2,k2⟩:=A1.wd.GJ (fl':=[]) (v:=.slice none 0 0) (Kp.refl k1.ZX (fun t=>t=.Zn)) ⟨[],rfl,YG.nil _ _ _ _ _,fun x hx=>by cases hx⟩ (R1.Ec (.slice none 0 0) rfl);have A2:Ju o g2 wb Yb { YO with Zn:=.slice none 0 0 } { w with Zn:=[] }:=A1.xQ k2 (by rintro t rfl;rfl) W2;have L2:Q0 o .Zn g2 (.slice pf w.Zn.length cf) w.Zn:=by rw[←hf];exact A1.wd.Zn.Zd k2 (by intro e;cases e)
  have K2:Kp VG o h o g2:=(Ye k1).trans (Ye k2);simp -implicitDefEqProofs only[go_sem,↓reduceIte,e0,q0,Rf,Ed,w2];refine VS.ZW (fun F g=>F 0=.pointer (some ⟨wb,0,none⟩)∧F 118=.slice pf w.Zn.length cf∧F 119=.int .i64 w.Zn.length∧∃(j:Nat) (o':Ow),j≤w.Zn.length∧F 120=.int .i64 j∧Kp VG o h o' g∧Ju o' g wb Yb { YO with Zn:=.slice none 0 0 } ((w.Zn.take j).foldl WC { w with Zn:=[] })∧Q0 o' .Zn g (.slice pf w.Zn.length cf) w.Zn)
   (fun F _=>w.Zn.length-(vi (F 120)).toNat) rfl ⟨rfl,rfl,rfl,0,o,Nat.zero_le _,rfl,K2,A2,L2⟩ ?_
  rintro F3 g3 ⟨f0,f118,f119,j,o3,hj,f120,K3,A3,L3⟩;by_cases ZD:j<w.Zn.length
  ·have ZL:(j:Int)<w.Zn.length:=by omega
   obtain⟨v,b3,ZDa,c3,hv,hvc,hb3,ZcL,iv3⟩:=fo L3 j ZD;simp only[Value.slice.injEq]at hv;obtain⟨rfl,_,rfl⟩:=hv;obtain⟨l,hl⟩:=Zx (w.Zn[j]);rw[←hl]at ZcL iv3;have eG:l∈w.Zn:=by rw[hl];exact List.getElem_mem ZD
   obtain⟨pw,cw,rfl⟩:=iv3.isSlice;obtain⟨g4,OZ⟩:=Zx (g3.push (.cells (Y7 l (.slice pw l.vs.length cw)).toArray 111):Hp);have k4:Kp QM o3 g3 o3 g4:=by rw[OZ];exact ZY K3.ZX _
   have x6:ZR o3 g4 g3.size (.cells (Y7 l (.slice pw l.vs.length cw)).toArray 111):=⟨K3.ZX _ (Nat.le_refl _),by rw[OZ];exact Zb⟩
   have e4:=OZ.symm;have r6:rd g4 ⟨g3.size,0,none⟩ 14=some (Y7 l (.slice pw l.vs.length cw)):=Zq x6.2 rfl;obtain⟨wj,hwj⟩:=Zx ((w.Zn.take j).foldl WC { w with Zn:=[] });rw[←hwj]at A3;have YX:(w.Zn.take (j+1)).foldl WC { w with Zn:=[] } = WC wj l:=by
    rw[Yl _ j ZD,←hl,List.foldl_append,←hwj];rfl
   have cc:=Ei T g4 o3 wb Yb _ wj l (.slice pw l.vs.length cw) k4.ZX (A3.still k4) (iv3.Zd k4) (ok.to l eG) (fun i hi=>by
    have h1:=CR i (w.Zn.take j) { w with Zn:=[] };rw[←hwj,List.length_take]at h1;have h2:=ok.inbox i hi;have h3:=ok.room;have h4:(({ w with Zn:=[] }:Wd).nodes i).inbox.length=(w.nodes i).inbox.length:=rfl;omega)
   unfold Zp Y7 at cc;unfold Y7 at e4 r6 ZcL;simp -implicitDefEqProofs only[go_sem,↓reduceIte,f0,f118,f119,f120,ZL,ZcL,e4,r6];refine cc.use ?_;rintro v' g5 ⟨o5,k5,A5⟩;simp -implicitDefEqProofs only[go_sem,↓reduceIte,f120];unfold Yt;refine⟨⟨f0,f118,f119,j+1,o5,ZD,rfl,(K3.trans (Ye k4)).trans (Ye k5),by rw[YX];exact A5,(L3.Zd k4 (fun q=>q.elim)).Zd k5 (by rintro⟨_,e⟩;cases e)⟩,?_⟩;simp only[vi,Zi,↓reduceIte,f120];omega
  ·have YJ:¬(j:Int)<w.Zn.length:=by omega
   obtain rfl:j=w.Zn.length:=by omega
   rw[List.take_of_length_le (Nat.le_refl _)]at A3;simp -implicitDefEqProofs only[go_sem,↓reduceIte,f119,f120,YJ];exact⟨o3,_,Yb,K3,A3⟩
 ·-- a ZfA
  have ea:act w a=w.set a.node (crashed a.node (w.nodes a.node) a.Zd):=by unfold act;rw[if_neg (by omega),if_neg (by omega),if_neg (by omega),if_neg (by omega),if_neg (by omega),if_pos e]
  rw[ea];rw[e]at q0;obtain⟨n,HS⟩:=Zx (w.nodes a.node);have ZcM:=ok.data _ hi;rw[←HS]at N1 ZcM;have P1:=ZA N1.ZG.2 N1.pt.store.len;have P1u:=P1.up;simp -implicitDefEqProofs only[go_sem,↓reduceIte,e0,q0];refine VS.mono (N:=fun F' g'=>Zf h1.size h1 g'∧F' 0=.pointer (some ⟨wb,0,none⟩)∧F' 3=.pointer (some ⟨h.size,0,none⟩)∧F' 7=.pointer (some ⟨Yb a.node,0,none⟩)) ?_ ?_ (fun _ _ _ h=>h) (fun _ _ h=>h)
  ·refine VS.z (h1.size) [] (.p 0 (.p 1 (.p 2 (.q 3 (.p 4 (.q 5 (.p 6 (.q 7 (.p 8 .nil))))))))) mixed (by kernel_rfl) ?_;simp -implicitDefEqProofs only[go_sem,↓reduceIte,Rn,q1,Ed,l3,hb,dS,ri]
   try exact Zf.refl _ _
  rintro F2 g2 ⟨b2,f0,f3,f7⟩;have Rs:=ZE k1.ZX b2;have A2:=A1.still Rs;have N2:=N1.still Rs;have K2:=k1.trans Rs;have y3:=x3.Zd Rs;have P2:=ZA N2.ZG.2 N2.pt.store.len;have fm:=P2.up;have J9:=Za N2.ZG.2;clear P1 P1u
  cases hu:n.up with
  | false=>
   rw[hu]at fm;have e1:crashed a.node (w.nodes a.node) a.Zd=w.nodes a.node:=by unfold crashed;rw[←HS,if_neg (by rw[hu];simp)]
   rw[e1,CP];simp -implicitDefEqProofs only[go_sem,↓reduceIte,f7,fm];exact⟨o,YO,Yb,Ye K2,A2⟩
  | true=>
   rw[hu]at fm;obtain⟨pt,ct,lH⟩:=N2.pt.data.1.isSlice;have lH:na.data=.slice pt n.data.length ct:=lH;have P2t:=P2.tape;rw[lH]at P2t;have ND:=N2.pt.data;rw[lH]at ND;obtain⟨L,Z,E,hLZ⟩:∃L Z E,Ss n.data n.Xg a.Zd=(L,Z,E):=⟨_,_,_,rfl⟩
   have q3:hc g2 ⟨h.size,3,none⟩=some (.int .i64 a.Zd):=Zh y3.2;have l3:=Za y3.2;have call:∀G,Zf g2.size g2 G→Zc Tryz.prog T 35 #[.agg #[.slice pt n.data.length ct,.int .i64 n.Xg],.int .i64 a.Zd] G fun v' h'=>Zf G.size G h'∧dO G.size h' v' (L,Z,E):=fun G hG=>by
    rw[←hLZ];exact oH T G _ n.Xg a.Zd n.data (ND.bs.Z2 hG) (by omega)
   have wT:∀(G:Hp) (k:Nat) (m:Int) (p:Option Addr) (L c:Nat),G[k]? = some (.cells [.slice none 0 0,.int .i64 0].toArray 76)→wr G ⟨k,0,none⟩ [.slice p L c,.int .i64 m]=some (G.setIfInBounds k (.cells [.slice p L c,.int .i64 m].toArray 76)):=fun G k m p L c hx=>by
    rw[ZU hx 0 _];rfl
   rw[bP a.node (w.nodes a.node) a.Zd L Z E (by rw[←HS];exact hu) (by rw[←HS];exact hLZ)];simp -implicitDefEqProofs only[go_sem,↓reduceIte,f7,fm];refine VS.mono (N:=fun F' g'=>F' 0=.pointer (some ⟨wb,0,none⟩)∧F' 3=.pointer (some ⟨h.size,0,none⟩)∧Zf g2.size g2 g'∧∃kt p c,F' 8=.pointer (some ⟨kt,0,none⟩)∧g'[kt]? = some (.cells [.slice p L.length c,.int .i64 Z].toArray 76)∧VC o g' (.slice p L.length c) L) ?_ ?_ (fun _ _ _ h=>h) (fun _ _ h=>h)
   ·refine VS.z (g2.size) [6,11] (.p 0 (.p 1 (.p 2 (.q 3 (.p 4 (.q 5 (.or 6 (.p 7 (.p 8 (.p 9 (.s 10 (.w 11 (.p 12 .nil)))))) (.s 10 (.w 6 (.p 7 (.p 8 (.p 9 (.w 11 (.p 12 .nil)))))))))))))) mixed (by kernel_rfl) ?_;simp -implicitDefEqProofs only[go_sem,↓reduceIte,f0,f3,f7,P2t,q3,J9,l3]
    repeat' (first|with_reducible exact Zf.refl _ _|with_reducible exact Zf.push (by omega) _|with_reducible refine And.intro ?_ ?_)
    all_goals first
     | (refine (call g2 (Zf.refl _ _)).use ?_
        rintro _ g5 ⟨b5,p5,c5,L',Z',E',hz,rfl,bs,tJ,zT⟩
        cases hz
        have s5:=b5.size;have kk:=ZE K2.ZX b5;have im:VC o g5 (.slice p5 L.length c5) L:=IA kk.ZX bs tJ fun b hb=>⟨K2.ZX b (zT b hb).1,(zT b hb).2⟩
        simp -implicitDefEqProofs only[go_sem,↓reduceIte,b5];exact⟨f0,f3,_,_,_,rfl,Zb,im.Zd (ZY kk.ZX _)⟩)
     | (refine (call (g2.push (.cells _ 76)) (Zf.push (Nat.le_refl _) _)).use ?_
        rintro _ g5 ⟨b5,p5,c5,L',Z',E',hz,rfl,bs,tJ,zT⟩
        cases hz
        have B5:Zf g2.size g2 g5:=(Zf.push (Nat.le_refl _) _).trans (b5.mono (by simp));have xA:=b5.get (k:=g2.size) (by simp) Zb;have TZ:=wT _ _ Z p5 L.length c5 xA;have zA:=Za xA;have kk:=ZE K2.ZX B5;have im:VC o g5 (.slice p5 L.length c5) L:=IA kk.ZX bs tJ fun b hb=>⟨K2.ZX b (by have:=(zT b hb).1;rw[Array.size_push]at this;omega),(zT b hb).2⟩
        have ks:=CQ kk.ZX im zA (fun b hb=>by have:=(zT b hb).1;rw[Array.size_push]at this;omega) (.cells [.slice p5 L.length c5,.int .i64 Z].toArray 76);simp -implicitDefEqProofs only[go_sem,↓reduceIte,B5,TZ,zA];exact⟨f0,f3,_,_,_,rfl,Zy xA,ks⟩)
   clear f0 f3 f7;rintro F3 g3 ⟨f0,f3,b3,kt,p3,c3,f8,yt,im3⟩;have WB:=ZE K2.ZX b3;have K3:=K2.trans WB;have A3:=A2.still WB;have z3:=y3.Zd WB;obtain⟨b,off,c,hn,hc5,hb,O3⟩:=Ww A3.wd;have R3:=Y8 A3.wd.ZG.2;have Rn:=R3.nodes;rw[hn]at Rn;have Ed:=Za A3.wd.ZG.2;have q1:hc g3 ⟨h.size,1,none⟩=some (.int .i64 a.node):=Zh z3.2;have l3:=Za z3.2;have rt:rd g3 ⟨kt,0,none⟩ 2=some [.slice p3 L.length c3,.int .i64 Z]:=Zq yt rfl;have lt:=Za yt;have cb:Zc Tryz.prog T 29 #[.int .i64 a.node,.agg #[.slice p3 L.length c3,.int .i64 Z],.agg #[.int .i64 0,.int .i64 0,.slice none 0 0]] g3 _:=Iy T g3 o wb a.node (.slice p3 L.length c3) L Z (.slice none 0 0) X4 K3.ZX im3 (Im.nil _ _ _ _);refine VS.z (g3.size) [12] (.p 0 (.p 1 (.p 2 (.q 3 (.p 4 (.q 5 (.p 6 (.q 7 (.q 8 (.p 9 (.s 10 (.p 11 (.w 12 .nil))))))))))))) mixed (by kernel_rfl) ?_;simp -implicitDefEqProofs only[go_sem,↓reduceIte,f0,f3,f8,Rn,q1,rt,Ed,l3,lt,hb,dS];refine cb.use ?_;rintro _ g4 ⟨nb,o4,a4,rfl,b4,k4,N4⟩;have W4:=A3.wd.Zd k4 (by rintro t (rfl|rfl)<;>simp[Tg.of]);obtain⟨b',ZqT,c',g5,RD,w5,k5,W5⟩:=GK k4.ZX W4 a.node nb hi;rw[hn]at RD;simp only[Value.slice.injEq,Option.some.injEq,Addr.mk.injEq,true_and,and_true]at RD;obtain⟨⟨rfl,rfl⟩,rfl⟩:=RD;have hb4:b<g4.size:=Nat.lt_of_lt_of_le hb b4.size;have N5:=N4.Zd k5 (by rintro t rfl e;cases e);have K5:Kp VG o h o4 g5:=((Ye K3).trans (Ye k4)).trans (Ye k5);have z5:=(z3.Zd k4).Zd k5;unfold Zp at w5 ⊢;simp -implicitDefEqProofs only[go_sem,↓reduceIte,b4,w5,hb4,dS];have R5:=Y8 W5.ZG.2;have R5n:=R5.nodes;rw[hn]at R5n;obtain⟨b'',ZvS,c'',ZcN,_,hb5,ZqU⟩:=Ww W5;rw[hn]at ZcN;simp only[Value.slice.injEq,Option.some.injEq,Addr.mk.injEq,true_and,and_true]at ZcN;obtain⟨⟨rfl,rfl⟩,rfl⟩:=ZcN;have ri5:=ZqU a.node hi;simp only[↓reduceIte]at ri5;unfold Zp at ri5;have bN:=Za W5.ZG.2;have lI:hc g5 ⟨h.size,1,none⟩=some (.int .i64 a.node):=Zh z5.2;have l35:=Za z5.2;have PB:=Za N5.ZG.2;obtain⟨g6,w6,N6,k6⟩:=ZV.write (n:={ blank a.node true L Z X4 with up:=false }) (a:=a4) { N5.pt with } K5.ZX N5.ZG ((Y0 N5.ZG.2 N5.pt.store.len).up false);refine VS.z (g5.size) [10] (.p 0 (.p 1 (.p 2 (.q 3 (.p 4 (.q 5 (.p 6 (.q 7 (.p 8 (.p 9 (.w 10 .nil))))))))))) mixed (by kernel_rfl) ?_;simp -implicitDefEqProofs only[go_sem,↓reduceIte,f0,f3,R5n,lI,bN,l35,hb5,dS,ri5,PB,w6];have kk:Kp (fun t=>t=.nodes∨t.of=some a.node) o g3 o4 g6:=((k4.mono fun t q=>by rcases q with rfl|rfl<;>exact .inr rfl).trans (k5.mono fun t q=>.inl q)).trans (k6.mono fun t q=>.inr (by rw[q];rfl));exact⟨o4,YO,_,K5.trans (Ye k6),A3.fresh kk N6 (W5.Zd k6 (by rintro t rfl;simp[Tg.of]))⟩
 ·-- a start
  have ea:act w a=w.set a.node (started a.node (w.nodes a.node)):=by unfold act;rw[if_neg (by omega),if_neg (by omega),if_neg (by omega),if_neg (by omega),if_neg (by omega),if_neg (by omega)]
  rw[ea];rw[e]at q0;obtain⟨n,HS⟩:=Zx (w.nodes a.node);have ZcM:=ok.data _ hi;rw[←HS]at N1 ZcM;simp -implicitDefEqProofs only[go_sem,↓reduceIte,e0,q0];refine VS.mono (N:=fun F' g'=>Zf h1.size h1 g'∧F' 0=.pointer (some ⟨wb,0,none⟩)∧F' 3=.pointer (some ⟨h.size,0,none⟩)∧F' 10=.pointer (some ⟨Yb a.node,0,none⟩)) ?_ ?_ (fun _ _ _ h=>h) (fun _ _ h=>h)
  ·refine VS.z (h1.size) [] (.p 0 (.p 1 (.p 2 (.q 3 (.p 4 (.q 5 (.p 6 (.q 7 (.p 8 .nil))))))))) mixed (by kernel_rfl) ?_;simp -implicitDefEqProofs only[go_sem,↓reduceIte,Rn,q1,Ed,l3,hb,dS,ri]
   try exact Zf.refl _ _
  rintro F2 g2 ⟨b2,f0,f3,f10⟩;have Rs:=ZE k1.ZX b2;have A2:=A1.still Rs;have N2:=N1.still Rs;have K2:=k1.trans Rs;have AS:=tb1.Zd Rs;have y3:=x3.Zd Rs;have P2:=ZA N2.ZG.2 N2.pt.store.len;have fm:=P2.up;have J9:=Za N2.ZG.2
  cases hu:n.up with
  | true=>
   rw[hu]at fm;have e1:started a.node (w.nodes a.node)=w.nodes a.node:=by unfold started;rw[←HS,if_pos hu]
   rw[e1,CP];simp -implicitDefEqProofs only[go_sem,↓reduceIte,f10,fm];exact⟨o,YO,Yb,Ye K2,A2⟩
  | false=>
   rw[hu]at fm;obtain⟨pt,ct,lH,hct⟩:=N2.pt.data.1.fits;have lH:na.data=.slice pt n.data.length ct:=lH;have P2t:=P2.tape;rw[lH]at P2t;have ND:=N2.pt.data;rw[lH]at ND;obtain⟨D,hD⟩:=Zx (Ij n.data n.Xg);obtain⟨Z,hZ⟩:=Zx (bq n.data n.Xg);obtain⟨WN,ZhA⟩:=Zx (if YU D Z then (Wu D).1 else X4);have es:started a.node (w.nodes a.node)=blank a.node true D Z WN:=by unfold started;rw[←HS,if_neg (by rw[hu];simp),ZhA,hD,hZ]
   rw[es];have hDl:D.length≤1000000:=by
    rw[hD];unfold Ij;split
    ·rw[List.length_take];omega
    ·simp
   simp -implicitDefEqProofs only[go_sem,↓reduceIte,f10,fm,P2t];refine (jt T g2 _ n.Xg n.data ND.bs hct (by omega) AS.tk).use ?_;rintro v3 g3 ⟨R3,b3⟩;obtain⟨p3,c3,E3,rfl,o3⟩:∃p c E,v3=.tuple [.agg [.slice p D.length c,.int .i64 Z].toArray,.int .i64 E].toArray∧Z0 g2.size 5 g3 (.slice p D.length c) D:=by
    obtain⟨r,k,E,w',rfl,ob,hk,hr⟩:=R3;have h1:(if E=0 then n.data.take k else [])=D:=by
     rw[hD];unfold Ij;split at hr
     ·rename_i q;rw[if_pos hr.1,if_pos q,Re hr.2]
     ·rename_i q;rw[if_neg (show ¬E=0 by omega),if_neg q]
    have h2:(if E=0 then (if (k:Int)<n.Xg then (k:Int) else n.Xg) else 0)=Z:=by
     rw[hZ];unfold bq;split at hr
     ·rename_i q;rw[if_pos hr.1,if_pos q,Re hr.2]
     ·rename_i q;rw[if_neg (show ¬E=0 by omega),if_neg q]
    rw[h1]at ob;rw[h2];obtain⟨p,c,rfl,_⟩:=ob.open;exact⟨p,c,E,rfl,ob⟩
   have WB:=ZE K2.ZX b3;obtain⟨g4,OZ⟩:=Zx (g3.push (.cells [.slice p3 D.length c3,.int .i64 Z].toArray 76):Hp);have k4:Kp QM o g2 o g4:=by rw[OZ];exact WB.push _
   have x11:ZR o g4 g3.size (.cells [.slice p3 D.length c3,.int .i64 Z].toArray 76):=⟨WB.ZX _ (Nat.le_refl _),by rw[OZ];exact Zb⟩
   have e4:=OZ.symm;have iD4:VC o g4 (.slice p3 D.length c3) D:=by rw[OZ];exact VC.Zd ⟨Im.Ue o3.own (fun b hb=>K2.ZX b hb),o3.byte⟩ (ZY WB.ZX _)
   have r11:rd g4 ⟨g3.size,0,none⟩ 2=some [.slice p3 D.length c3,.int .i64 Z]:=Zq x11.2 rfl;have tb4:=AS.Zd k4;simp -implicitDefEqProofs only[go_sem,↓reduceIte,e4,r11];refine (Ig T g4 _ Z D iD4.bs (by omega) tb4.tk).use ?_;rintro v5 g5 ⟨R5,b5⟩;obtain⟨p5,c5,E5,K5',rfl,o5⟩:∃p c E K,v5=.tuple [.agg [.int .i64 WN.p.r,.int .i64 WN.p.n,.slice p WN.l.length c].toArray,.int .i64 K,.int .i64 E].toArray∧Wz o g5 (.slice p WN.l.length c) WN.l:=by
    obtain⟨r,k,E,w',rfl,ob,hk,_,hr⟩:=R5;have h1:r=WN:=by
     rw[ZhA];split at hr
     ·rw[if_pos (by assumption),Re hr.2]
     ·rw[if_neg (by assumption)];exact hr.2.1
    rw[h1]at ob ⊢;have im:Wz o g5 w' WN.l:=Im.Ue ob.own (fun b hb=>k4.ZX b hb);obtain⟨p,c,rfl⟩:=im.isSlice;exact⟨p,c,E,_,rfl,im⟩
   have GC:=ZE k4.ZX b5;obtain⟨g6,Rt⟩:=Zx (g5.push (.cells [.int .i64 WN.p.r,.int .i64 WN.p.n,.slice p5 WN.l.length c5].toArray 81):Hp);have k6:Kp QM o g4 o g6:=by rw[Rt];exact GC.push _
   have zR:ZR o g6 g5.size (.cells [.int .i64 WN.p.r,.int .i64 WN.p.n,.slice p5 WN.l.length c5].toArray 81):=⟨GC.ZX _ (Nat.le_refl _),by rw[Rt];exact Zb⟩
   have e6:=Rt.symm;have K6:Kp QM o h o g6:=(K2.trans k4).trans k6;have iD6:=iD4.Zd k6;have iV6:Wz o g6 (.slice p5 WN.l.length c5) WN.l:=by rw[Rt];exact o5.Zd (ZY GC.ZX _)
   have A6:=(A2.still k4).still k6;have z3:=(y3.Zd k4).Zd k6;have z11:=x11.Zd k6;clear hn hc5 hb O3 Rn Ed q1 l3 ri;obtain⟨b,off,c,hn,hc5,hb,O3⟩:=Ww A6.wd;have R6:=Y8 A6.wd.ZG.2;have Rn:=R6.nodes;rw[hn]at Rn;have Ed:=Za A6.wd.ZG.2;have q1:hc g6 ⟨h.size,1,none⟩=some (.int .i64 a.node):=Zh z3.2;have l3:=Za z3.2;have rt:rd g6 ⟨g3.size,0,none⟩ 2=some [.slice p3 D.length c3,.int .i64 Z]:=Zq z11.2 rfl;have lt:=Za z11.2;have ra:rd g6 ⟨g5.size,0,none⟩ 3=some [.int .i64 WN.p.r,.int .i64 WN.p.n,.slice p5 WN.l.length c5]:=Zq zR.2 rfl;have la:=Za zR.2;have cb:=Iy T g6 o wb a.node (.slice p3 D.length c3) D Z (.slice p5 WN.l.length c5) WN K6.ZX iD6 iV6;simp -implicitDefEqProofs only[go_sem,↓reduceIte,e6];refine VS.z (g6.size) [12] (.p 0 (.p 1 (.p 2 (.q 3 (.p 4 (.q 5 (.p 6 (.q 7 (.q 8 (.q 9 (.s 10 (.p 11 (.w 12 .nil))))))))))))) mixed (by kernel_rfl) ?_;simp -implicitDefEqProofs only[go_sem,↓reduceIte,f0,f3,Rn,q1,rt,ra,Ed,l3,lt,la,hb,dS];refine cb.use ?_;rintro _ g7 ⟨nb,o7,a7,rfl,b7,k7,N7⟩;have W7:=A6.wd.Zd k7 (by rintro t (rfl|rfl)<;>simp[Tg.of]);obtain⟨b',ZqT,c',g8,RD,w8,k8,W8⟩:=GK k7.ZX W7 a.node nb hi;rw[hn]at RD;simp only[Value.slice.injEq,Option.some.injEq,Addr.mk.injEq,true_and,and_true]at RD;obtain⟨⟨rfl,rfl⟩,rfl⟩:=RD;have hb7:b<g7.size:=Nat.lt_of_lt_of_le hb b7.size;have N8:=N7.Zd k8 (by rintro t rfl e;cases e);have K8:Kp VG o h o7 g8:=((Ye K6).trans (Ye k7)).trans (Ye k8);unfold Zp at w8 ⊢;simp -implicitDefEqProofs only[go_sem,↓reduceIte,b7,w8,hb7,dS];have kk:Kp (fun t=>t=.nodes∨t.of=some a.node) o g6 o7 g8:=(k7.mono fun t q=>by rcases q with rfl|rfl<;>exact .inr rfl).trans (k8.mono fun t q=>.inl q);exact⟨o7,YO,_,K8,A6.fresh kk N8 W8⟩
def ID (Yb:Nat→Nat) (j:Nat):List Value:=(List.range j).map fun i=>Zp (Yb i)
theorem bW (Yb:Nat→Nat) (j:Nat):ID Yb (j+1)=ID Yb j++[Zp (Yb j)]:=by
 unfold ID;rw[List.range_succ,List.map_append];rfl
theorem bX (Yb:Nat→Nat) (j nb:Nat):ID (fun i=>if i=j then nb else Yb i) j=ID Yb j:=by
 unfold ID;apply List.map_congr_left;intro i hi;rw[List.mem_range]at hi;simp only;rw[if_neg (by omega)]
set_option maxHeartbeats 4000000 in
theorem rQ (T:World) (h:Hp) (o:Ow) (d:UE o h) :
  Zc Tryz.prog T 19 #[] h fun v' h'=>∃wb Yb o' YO,v'=Zp wb∧Kp VG o h o' h'∧Ju o' h' wb Yb YO VB:=by
 refine Zc.Zk (args:=[]) Tryz.func19 rfl rfl rfl rfl ?_;obtain⟨wb,ZcO⟩:=Zx (h.size);obtain⟨g1,Ni⟩:∃g1:Hp,g1=h.push (.cells (Xm (fun _=>0) ⟨.slice none 0 0,.slice none 0 0,.slice none 0 0⟩).toArray 73):=⟨_,rfl⟩
 have e1:=Ni.symm;unfold Xm at e1;simp only at e1;have k1:Kp VG o h (JO o wb .world) g1:=by rw[Ni,ZcO];exact ((Kp.refl d VG).push _).Sj (Nat.le_refl _) (by simp) trivial
 have B1:Q2 (JO o wb .world) .world g1 wb (.cells (Xm (fun _=>0) ⟨.slice none 0 0,.slice none 0 0,.slice none 0 0⟩).toArray 73):=⟨Y9,by rw[Ni,ZcO];exact Zb⟩
 simp -implicitDefEqProofs only[go_sem,↓reduceIte,e1];rw[←ZcO];refine VS.ZW (fun F g=>F 1=.pointer (some ⟨wb,0,none⟩)∧∃(j:Nat) (o':Ow) (Yb:Nat→Nat) (v:Value),j≤5∧F 5=.int .i64 j∧Kp VG o h o' g∧Q2 o' .world g wb (.cells (Xm (fun _=>0) ⟨v,.slice none 0 0,.slice none 0 0⟩).toArray 73)∧YG o' .nodes 74 1 g v j (ID Yb j)∧∀i,i<j→∃a,ZM o' g wb i (Yb i) a (blank i true [] 0 X4))
  (fun F _=>5-(vi (F 5)).toNat) rfl ⟨rfl,0,_,fun _=>0,.slice none 0 0,by omega,rfl,k1,B1,YG.nil _ _ _ _ _,fun i hi=>by omega⟩ ?_
 clear B1 k1 e1 Ni;rintro F2 g2 ⟨f1,j,o2,Yb,v,hj,f5,K2,B2,O2,N2⟩;by_cases ZD:j<5
 ·have ZL:(j:Int)<5:=by omega
  obtain⟨pv,cv,rfl,_⟩:=O2.isSlice;have R2:=Y8 B2.2;have Rn:=R2.nodes;simp only at Rn;have Ed:=Za B2.2;have cb:Zc Tryz.prog T 29 #[.int .i64 j,.agg #[.slice none 0 0,.int .i64 0],.agg #[.int .i64 0,.int .i64 0,.slice none 0 0]] g2 _:=Iy T g2 o2 wb j (.slice none 0 0) [] 0 (.slice none 0 0) X4 K2.ZX ⟨Im.nil _ _ _ _,fun x hx=>by cases hx⟩ (Im.nil _ _ _ _);simp -implicitDefEqProofs only[go_sem,↓reduceIte,f1,f5,ZL];refine VS.z (g2.size) [10,13] (.p 0 (.p 1 (.p 2 (.p 3 (.q 4 (.p 5 (.p 6 (.p 7 (.s 8 (.s 9 (.w 10 (.p 11 (.p 12 (.w 13 .nil)))))))))))))) mixed (by kernel_rfl) ?_;simp -implicitDefEqProofs only[go_sem,↓reduceIte,f1,f5,Rn,Ed];refine cb.use ?_;rintro _ g3 ⟨nb,o3,a3,rfl,b3,k3,N3⟩;unfold Zp;simp -implicitDefEqProofs only[go_sem,↓reduceIte,b3];obtain⟨g4,OZ⟩:=Zx (g3.push (.cells [Zp nb].toArray 74):Hp);have e4:=OZ.symm;unfold Zp at e4;rw[e4];have k4:Kp QM o3 g3 o3 g4:=by rw[OZ];exact ZY k3.ZX _
  have B4:=(B2.Zd k3 (by rintro (e|e)<;>cases e)).Zd k4 (fun q=>q);have O4:=(O2.Zd k3 (by rintro (e|e)<;>cases e)).Zd k4 (fun q=>q);have N4:=N3.still k4;have M4:∀i,i<j→∃a,ZM o3 g4 wb i (Yb i) a (blank i true [] 0 X4):=fun i hi=>by
   obtain⟨a,N⟩:=N2 i hi;refine⟨a,(N.Zd k3 ?_).still k4⟩;rintro t (rfl|rfl) e
   ·have:=Option.some.inj e;omega
   ·have:=Option.some.inj e;omega
  have x4:g4[g3.size]? = some (.cells [Zp nb].toArray 74):=by rw[OZ];exact Zb
  have src:Sl 1 g4 (.slice (some ⟨g3.size,0,none⟩) 1 1) 1 [Zp nb]:=⟨_,1,rfl,rfl,fun _=>⟨g3.size,0,rfl,fun i hi=>by
   rw[Zh x4,Yh,Nat.zero_add];exact List.getElem?_eq_getElem hi⟩⟩
  refine Jf (E:=74) (n:=1) (bytes:=8) (k:=1) Zfh Tryz.underlying70 ZmE ZmG rfl ZmF O4 k4.ZX src rfl (by omega) (by omega) ?_;intro v' o5 g5 O5 k5 _;have k5:Kp (fun u=>u=.nodes) o3 g4 o5 g5:=k5;obtain⟨p5,c5,rfl,_⟩:=O5.isSlice;have B5:=B4.Zd k5 (by intro e;cases e);have w5:=(Y8 B5.2).Zci (.slice p5 (j+1) c5) rfl;have bN:=Za B5.2;obtain⟨g6,Rt⟩:∃g6,g6=g5.setIfInBounds wb (.cells (Xm (fun _=>0) ⟨.slice p5 (j+1) c5,.slice none 0 0,.slice none 0 0⟩).toArray 73):=⟨_,rfl⟩
  simp only at w5;rw[←Rt]at w5;have k6:Kp (fun t=>t=.world) o5 g5 o5 g6:=by rw[Rt];exact (Kp.refl k5.ZX (fun t=>t=.world)).set B5.1 rfl _
  have B6:Q2 o5 .world g6 wb (.cells (Xm (fun _=>0) ⟨.slice p5 (j+1) c5,.slice none 0 0,.slice none 0 0⟩).toArray 73):=⟨B5.1,by rw[Rt];exact Zy B5.2⟩
  have K6:Kp VG o h o5 g6:=(((K2.trans (Ye k3)).trans (Ye k4)).trans (Ye k5)).trans (Ye k6);simp -implicitDefEqProofs only[go_sem,↓reduceIte,w5,bN,f5];unfold Yt;refine⟨⟨f1,j+1,o5,(fun i=>if i=j then nb else Yb i),.slice p5 (j+1) c5,ZD,rfl,K6,B6,?_,fun i hi=>?_⟩,?_⟩
  ·rw[bW,bX];simp only[↓reduceIte];exact O5.Zd k6 (by intro e;cases e)
  ·by_cases e:i=j
   ·subst e;refine⟨a3,?_⟩;simp only[↓reduceIte];exact (N4.Zd k5 (by rintro t rfl e;cases e)).Zd k6 (by rintro t rfl e;cases e)
   ·obtain⟨a,N⟩:=M4 i (by omega);refine⟨a,?_⟩;simp only[if_neg e];exact (N.Zd k5 (by rintro t rfl e;cases e)).Zd k6 (by rintro t rfl e;cases e)
  ·simp only[vi,Zi,↓reduceIte,f5];omega
 ·have YJ:¬(j:Int)<5:=by omega
  obtain rfl:j=5:=by omega
  simp -implicitDefEqProofs only[go_sem,↓reduceIte,f1,f5,YJ];exact⟨wb,Yb,o2,_,rfl,K2,⟨B2,O2,⟨[],rfl,YG.nil _ _ _ _ _,fun x hx=>by cases hx⟩,YG.nil _ _ _ _ _⟩,fun i hi=>N2 i hi⟩
theorem bY (T:World) (h:Hp) (u:Value) (l:List Cm) (s:Ts Js.C 5 h u l) (hl:l.length≤2199023255552) :
  Zc Tryz.prog T 21 #[u] h fun v' h'=>Jn h.size 47 Js.C 5 h' v' l∧Zf h.size h h':=by
 obtain⟨p,c,rfl,Us⟩:=JY s;refine Zc.Zk (args:=[_]) Tryz.func21 rfl rfl rfl rfl ?_
 cases p with
 | none=>
  have:l=[]:=by
   cases l with
   | nil=>rfl
   | cons x l=>obtain⟨b,o,hp,_⟩:=Us (by simp);cases hp
  subst this;simp -implicitDefEqProofs only[go_sem,↓reduceIte];exact Jn.nil _ _ _ _ _
 | some a=>
  simp -implicitDefEqProofs only[go_sem,↓reduceIte];refine VT (E:=47) (B:=h.size) (n:=5) (bytes:=40) Dp Tryz.underlying34 Zbd nN rfl Zfg (fun _=>rfl) (Jn.I9 _ _ Js.C 5 _ _) (by simp) (s.Z2 (Zf.push (Nat.le_refl _) _)) (by simp;omega) (by omega) ?_;intro v' h' ho hb _;simp -implicitDefEqProofs only[go_sem,↓reduceIte];exact⟨by simpa using ho,(Zf.push (Nat.le_refl _) _).trans hb⟩
structure Raw where
 k:Int
 n:Int
 a:Int
 b:Int
 data:List Nat
def Raw.ac (x:Raw):Ac:=⟨x.k,x.n.toNat,x.a.toNat,x.b,x.data⟩
def Raw.err (x:Raw):Int:=QQ x.k x.n x.a x.b x.data.length
def Jv (x:Raw × Value):List Value:=To x.1.k x.1.n x.1.a x.1.b x.2
def Qc:List Raw→Int
 | []=>0
 | x :: l=>if x.err≠0 then x.err else Qc l
def VI (l:List Raw):Int:=if 100000<l.length then 1 else Qc l
theorem Nc (x:Raw × Value):(Jv x).length=5:=rfl
theorem IE {l:List Raw} {j:Nat} (hj:j<l.length) (h0:∀x∈l.take j,x.err=0) (h1:l[j].err≠0):Qc l=l[j].err:=by
 induction l generalizing j with
 | nil=>simp at hj
 | cons y l ih=>
  cases j with
  | zero=>unfold Qc;rw[if_pos (by simpa using h1)];rfl
  | succ j=>
   unfold Qc;rw[if_neg (by simpa using h0 y (by simp))];exact ih (by simpa using hj) (fun x hx=>h0 x (by simp[hx])) (by simpa using h1)
theorem SG {l:List Raw} (h0:∀x∈l,x.err=0):Qc l=0:=by
 induction l with
 | nil=>rfl
 | cons y l ih=>unfold Qc;rw[if_neg (by simpa using h0 y (by simp))];exact ih fun x hx=>h0 x (by simp[hx])
theorem El {x:Raw} (h:x.err=0):(1≤x.k∧x.k≤9)∧(0≤x.n∧x.n≤4)∧(0≤x.a∧x.a≤1048576)∧(0≤x.b∧x.b≤100000)∧x.data.length≤2000:=by
 unfold Raw.err QQ at h;by_cases c1:1≤x.k∧x.k≤9
 case neg=>rw[if_pos c1]at h;cases h
 rw[if_neg (by simpa using c1)]at h;by_cases c2:(YZ x.k∧¬(0≤x.n∧x.n≤4))∨(JL x.k∧¬(0≤x.a∧x.a≤1048576))∨(x.k=8∧¬(0≤x.b∧x.b≤100000))
 ·rw[if_pos c2]at h;cases h
 rw[if_neg c2]at h;by_cases c3:2000<x.data.length
 ·rw[if_pos c3]at h;cases h
 rw[if_neg c3]at h;by_cases c4:(¬YZ x.k∧x.n≠0)∨(¬JL x.k∧x.a≠0)∨(x.k≠8∧x.b≠0)∨(x.k≠1∧0<x.data.length)
 ·rw[if_pos c4]at h;cases h
 refine⟨c1,?_,?_,?_,by omega⟩
 ·by_cases q:YZ x.k
  ·exact Classical.byContradiction fun e=>c2 (.inl ⟨q,e⟩)
  ·have:x.n=0:=Classical.byContradiction fun e=>c4 (.inl ⟨q,e⟩);omega
 ·by_cases q:JL x.k
  ·exact Classical.byContradiction fun e=>c2 (.inr (.inl ⟨q,e⟩))
  ·have:x.a=0:=Classical.byContradiction fun e=>c4 (.inr (.inl ⟨q,e⟩));omega
 ·by_cases q:x.k=8
  ·exact Classical.byContradiction fun e=>c2 (.inr (.inr ⟨q,e⟩))
  ·have:x.b=0:=Classical.byContradiction fun e=>c4 (.inr (.inr (.inl ⟨q,e⟩)));omega
def Yq (xs:List (Raw × Value)):List Raw:=xs.map (·.1)
def SI:Ow:=fun _=>none
theorem N0 (h:Hp):UE SI h:=fun _ _=>rfl
theorem PH {S:Tg→Prop} {h h':Hp} {o':Ow} (k:Kp S SI h o' h'):Zf h.size h h':=
 ⟨k.size,fun b hb=>(k.Zd b hb fun t ht=>by cases ht).1⟩
def lJ:List Value:=[.int .i64 0,.bool false,.bool false,.bool false,.bool false,.bool false,.slice none 0 0,.int .i64 0,.int .i64 0,.int .i64 0,.int .i64 0,.int .i64 0,.slice none 0 0]
def bZ (w:Wd) (lv tv:Value):List Value:=[.int .i64 w.Zn.length,.bool (w.nodes 0).up,.bool (w.nodes 1).up,.bool (w.nodes 2).up,.bool (w.nodes 3).up,.bool (w.nodes 4).up,lv,.int .i64 (w.bad 0),.int .i64 (w.bad 1),.int .i64 (w.bad 2),.int .i64 (w.bad 3),.int .i64 (w.bad 4),tv]
structure cj (h:Hp) (R:List Value) (w:Wd) (lv tv:Value) (vs:List Value):Prop where
 cells:R=bZ w lv tv
 ZhB:Ts (fun v=>[v]) 1 h lv vs
 each:Dm (fun v l=>Ts Js.C 5 h v l) vs [(w.nodes 0).log,(w.nodes 1).log,(w.nodes 2).log,(w.nodes 3).log,(w.nodes 4).log]
 told:Ts Il 5 h tv w.told
 ZDj:Dm (fun v (l:List Cm)=>∃p c,v=.slice p l.length c∧l.length≤c) vs [(w.nodes 0).log,(w.nodes 1).log,(w.nodes 2).log,(w.nodes 3).log,(w.nodes 4).log]
def UK (B:Nat) (h:Hp) (R:List Value) (w:Wd) (lv tv:Value) (vs:List Value):Prop:=∀G:Hp,(∀b,B≤b→b<h.size→G[b]? = h[b]?)→cj G R w lv tv vs
theorem UK.at {B:Nat} {h:Hp} {R:List Value} {w:Wd} {lv tv:Value} {vs:List Value} (s:UK B h R w lv tv vs):cj h R w lv tv vs:=s h fun _ _ _=>rfl
theorem UK.Z2 {B:Nat} {h h':Hp} {R:List Value} {w:Wd} {lv tv:Value} {vs:List Value} (s:UK B h R w lv tv vs) (b:Zf h.size h h'):UK B h' R w lv tv vs:=
 fun G hG=>s G fun k h1 h2=>by rw[hG k h1 (Nat.lt_of_lt_of_le h2 b.size)];exact b.block k h2
theorem UK.set {B:Nat} {h:Hp} {R:List Value} {w:Wd} {lv tv:Value} {vs:List Value} (s:UK B h R w lv tv vs) {k:Nat} (hk:k<B) (x:Obj):UK B (h.setIfInBounds k x) R w lv tv vs:=
 fun G hG=>s G fun b h1 h2=>by rw[hG b h1 (by simpa using h2),Array.getElem?_setIfInBounds,if_neg (by omega)]
def GM (B:Nat) (h':Hp) (v':Value) (l:List Raw):Prop:=
 if VI l=0 then ∃R lv tv vs,v'=.tuple #[.agg R.toArray,.int .i64 0]∧UK B h' R (OT (l.map Raw.ac)) lv tv vs
 else v'=.tuple #[.agg lJ.toArray,.int .i64 (VI l)]
theorem GN {h:Hp} {v:Value} {l:List (Raw × Value)} (s:Ts Jv 5 h v l):∃p c,v=.slice p l.length c∧(l≠[]→∃b o,p=some ⟨b,o,none⟩∧b<h.size∧∀i (hi:i<l.length),rd h ⟨b,o+i*5,none⟩ 5=some (Jv l[i])):=by
 obtain⟨p,c,hv,hh⟩:=s.open Nc (by decide);refine⟨p,c,hv,fun YA=>?_⟩;obtain⟨b,o,h1,h2,h3⟩:=hh YA;exact⟨b,o,h1,h2,fun i hi=>(h3 i hi).rd (by simp[Jv,To]) rfl⟩
def CW (w:Wd) (j:Nat) (lv tv:Value):List Value:=[.int .i64 w.Zn.length,.bool (if 0<j then (w.nodes 0).up else false),.bool (if 1<j then (w.nodes 1).up else false),.bool (if 2<j then (w.nodes 2).up else false),.bool (if 3<j then (w.nodes 3).up else false),.bool (if 4<j then (w.nodes 4).up else false),lv,.int .i64 (w.bad 0),.int .i64 (w.bad 1),.int .i64 (w.bad 2),.int .i64 (w.bad 3),.int .i64 (w.bad 4),tv]
theorem fB (w:Wd) (j:Nat) (lv tv:Value):(CW w j lv tv).length=13:=rfl
theorem ZcP (w:Wd) (j:Nat) (lv tv:Value) (hj:j<5):(CW w j lv tv).set (1+j) (.bool (w.nodes j).up)=CW w (j+1) lv tv:=by
 match j,hj with
 | 0,_=>rfl
 | 1,_=>rfl
 | 2,_=>rfl
 | 3,_=>rfl
 | 4,_=>rfl
theorem yk (w:Wd) (j:Nat) (lv lv' tv:Value):(CW w j lv tv).set 6 lv'=CW w j lv' tv:=rfl
def N9 (w:Wd) (j:Nat):List (List Cm):=(List.range j).map fun i=>(w.nodes i).log
theorem CX (w:Wd) (j:Nat):N9 w (j+1)=N9 w j++[(w.nodes j).log]:=by
 unfold N9;rw[List.range_succ,List.map_append];rfl
def cy (t:Tg):Prop:=t=.log 100∨t=.log 101
theorem Nf {α β:Type} {R R':α→β→Prop} {l:List α} {k:List β} (s:Dm R l k) (h:∀x y,R x y→R' x y):Dm R' l k:=by
 induction s with
 | nil=>exact .nil
 | cons a _ ih=>exact .cons (h _ _ a) ih
theorem j0 (l:List Value):Zz (fun v=>[v]) l=l:=by
 induction l with
 | nil=>rfl
 | cons x l ih=>
  have:Zz (fun v=>[v]) (x :: l)=[x]++Zz (fun v=>[v]) l:=by simp[Zz]
  rw[this,ih];rfl
theorem rR {o:Ow} {t:Tg} {E:TypeId} {n m b:Nat} {h:Hp} {v:Value} {cs:List Value} (s:YG o t E n h v m cs) (hb:ZO v=some b):o b=some t:=by
 rcases s with⟨⟨q,rfl⟩,_,_⟩|⟨b',j,cap,pre,spare,h1,rfl,h3,h4,h5,h6,h7⟩
 ·cases q<;>simp[ZO]at hb
 ·unfold ZO at hb;simp only at hb;split at hb
  ·cases hb
  ·have:=Option.some.inj hb;rw[←this];exact h1
theorem fE {o:Ow} {t:Tg} {E:TypeId} {n m:Nat} {h G:Hp} {v:Value} {cs:List Value} (s:YG o t E n h v m cs) (hG:∀b,o b=some t→b<h.size→G[b]? = h[b]?):YG o t E n G v m cs:=by
 rcases s with s|⟨b',j,cap,pre,spare,h1,rfl,h3,h4,h5,h6,h7⟩
 ·exact .inl s
 ·exact .inr ⟨b',j,cap,pre,spare,h1,rfl,by rw[hG b' h1 (Za h3)];exact h3,h4,h5,h6,h7⟩
theorem ZhC {o:Ow} {n m:Nat} {h G:Hp} {v:Value} {cs:List Value} (s:Im o n h v m cs) (hG:∀b,ZO v=some b→b<h.size→G[b]? = h[b]?):Sl n G v m cs:=by
 obtain⟨⟨p,c,rfl,hl,tJ⟩,⟨p',c',he,hm⟩,hf⟩:=s;simp only[Value.slice.injEq,true_and]at he;obtain⟨rfl,rfl⟩:=he;refine⟨p,c,rfl,hl,fun YA=>?_⟩;obtain⟨b,off,rfl,YS⟩:=tJ YA;have dm:c≠0:=by
  intro e;have:m=0:=by omega
  rw[this,Nat.zero_mul]at hl;exact YA (List.eq_nil_of_length_eq_zero hl)
 have hb:ZO (.slice (some ⟨b,off,none⟩) m c)=some b:=by unfold ZO;simp only;rw[if_neg dm]
 refine⟨b,off,rfl,fun i hi=>?_⟩;have h1:=YS i hi;have h2:=hG b hb (hf b hb).1;unfold V.hc at h1 ⊢;rw[h2];exact h1
theorem CY {S:Tg→Prop} {h h':Hp} {o':Ow} {t:Tg} {b:Nat} (k:Kp S SI h o' h') (hb:o' b=some t):h.size≤b:=by
 refine Classical.byContradiction fun q=>?_;obtain⟨_,h2⟩:=k.Zd b (by omega) (fun t ht=>by cases ht);rw[hb]at h2;cases h2
set_option maxHeartbeats 8000000 in
theorem ym (T:World) (h:Hp) (v:Value) (xs:List (Raw × Value)) (hv:Ts Jv 5 h v xs) (hx:∀x∈xs,VC SI h x.2 x.1.data) (tb:BA SI h) (FQ:xs.length≤4611686018427387904)
  (inv:(∀x∈Yq xs,x.err=0)→xs.length≤100000→∀j,j≤xs.length→WOk (OT (((Yq xs).take j).map Raw.ac))) :
  Zc Tryz.prog T 12 #[v] h fun v' h'=>Zf h.size h h'∧GM h.size h' v' (Yq xs):=by
 obtain⟨p,c,rfl,YS⟩:=GN hv;refine Zc.XM (args:=[_]) Tryz.func12 rfl rfl rfl rfl ?_;obtain⟨h1,YK⟩:=Zx (h.push (.cells lJ.toArray 28):Hp);have e1:=YK.symm;unfold lJ at e1;have b1:Zf h.size h h1:=by rw[YK];exact Zf.push (Nat.le_refl _) _
 have s1:h1.size=h.size+1:=by rw[YK];simp
 have x2:h1[h.size]? = some (.cells lJ.toArray 28):=by rw[YK];exact Zb
 have rl:(Yq xs).length=xs.length:=by unfold Yq;simp
 have rz:∀G:Hp,Zf h1.size h1 G→G[h.size]? = some (.cells lJ.toArray 28):=fun G hG=>hG.get (by omega) x2;have wz:∀G:Hp,Zf h1.size h1 G→wr G ⟨h.size,0,none⟩ [.int .i64 0,.bool false,.bool false,.bool false,.bool false,.bool false,.slice none 0 0,.int .i64 0,.int .i64 0,.int .i64 0,.int .i64 0,.int .i64 0,.slice none 0 0]=some G:=fun G hG=>by
  rw[ZU (rz G hG) 0 _];have:(G.setIfInBounds h.size (.cells (Yw lJ 0 [.int .i64 0,.bool false,.bool false,.bool false,.bool false,.bool false,.slice none 0 0,.int .i64 0,.int .i64 0,.int .i64 0,.int .i64 0,.int .i64 0,.slice none 0 0]).toArray 28))=G:=OG (rz G hG);rw[if_pos ⟨by simp[lJ],rfl⟩];exact congrArg some this
 have rr:∀G:Hp,Zf h1.size h1 G→rd G ⟨h.size,0,none⟩ 13=some [.int .i64 0,.bool false,.bool false,.bool false,.bool false,.bool false,.slice none 0 0,.int .i64 0,.int .i64 0,.int .i64 0,.int .i64 0,.int .i64 0,.slice none 0 0]:=fun G hG=>Zq (rz G hG) rfl;have w0:=wz h1 (Zf.refl _ _);have r0:=rr h1 (Zf.refl _ _);have l0:=Za x2;by_cases ZaB:100000<xs.length
 ·have rS:(xs.length:Int)>100000:=by omega
  have e2:VI (Yq xs)=1:=by unfold VI;rw[rl,if_pos ZaB]
  simp -implicitDefEqProofs only[go_sem,↓reduceIte,e1,rS,w0,r0];refine⟨b1,?_⟩;unfold GM;rw[e2,if_neg (by decide)];rfl
 have rS:¬(xs.length:Int)>100000:=by omega
 have ZcQ:xs.length≤100000:=by omega
 have e2:VI (Yq xs)=Qc (Yq xs):=by unfold VI;rw[rl,if_neg ZaB]
 have Em:∀i (hi:i<xs.length),(Yq xs)[i]'(by rw[rl];exact hi)=xs[i].1:=fun i hi=>by unfold Yq;simp
 simp -implicitDefEqProofs only[go_sem,↓reduceIte,e1,rS];refine VS.ZW (fun F g=>F 0=.slice p xs.length c∧F 2=.pointer (some ⟨h.size,0,none⟩)∧F 17=.slice p xs.length c∧F 18=.int .i64 xs.length∧Zf h1.size h1 g∧∃j:Nat,j≤xs.length∧F 19=.int .i64 j∧∀x∈(Yq xs).take j,x.err=0)
  (fun F _=>xs.length-(vi (F 19)).toNat) rfl ⟨rfl,rfl,rfl,rfl,Zf.refl _ _,0,Nat.zero_le _,rfl,fun x hx=>by simp at hx⟩ ?_
 rintro F2 g2 ⟨f0,f2,f17,f18,b2,j,hj,f19,hz⟩;by_cases ZD:j<xs.length
 ·have ZL:(j:Int)<xs.length:=by omega
  obtain⟨bb,oo,rfl,Wi,O3⟩:=YS (by intro e;rw[e]at ZD;simp at ZD);obtain⟨x,S6⟩:=Zx (xs[j]);have hxm:x∈xs:=by rw[S6];exact List.getElem_mem ZD
  have iv:=hx x hxm;obtain⟨pd,cd,O1⟩:=iv.1.isSlice;have r1:rd g2 ⟨bb,oo+j*5,none⟩ 5=some (Jv x):=by rw[JQ (b1.trans (b2.mono (by omega))) Wi,S6];exact O3 j ZD
  unfold Jv To at r1;rw[O1]at r1;obtain⟨g3,Ee⟩:=Zx (g2.push (.cells (To x.1.k x.1.n x.1.a x.1.b (.slice pd x.1.data.length cd)).toArray 58):Hp);have e3:=Ee.symm;have y3:g3[g2.size]? = some (.cells (To x.1.k x.1.n x.1.a x.1.b (.slice pd x.1.data.length cd)).toArray 58):=by rw[Ee];exact Zb
  have r3:rd g3 ⟨g2.size,0,none⟩ 5=some (To x.1.k x.1.n x.1.a x.1.b (.slice pd x.1.data.length cd)):=Zq y3 rfl;unfold To at e3 r3;have b3:Zf h1.size h1 g3:=by rw[Ee];exact b2.Yi b2.size _
  have ck:=Hl T g3 x.1.k x.1.n x.1.a x.1.b pd x.1.data.length cd;unfold KK at ck;simp -implicitDefEqProofs only[go_sem,↓reduceIte,f0,f2,f17,f18,f19,ZL,r1,e3,r3];refine ck.use ?_;rintro _ g4 ⟨rfl,b4⟩;have B4:Zf h1.size h1 g4:=b3.trans (b4.mono b3.size);have exr:x.1.err=QQ x.1.k x.1.n x.1.a x.1.b x.1.data.length:=rfl;rw[←exr];by_cases hex:x.1.err=0
  ·simp -implicitDefEqProofs only[go_sem,↓reduceIte,hex,f19];unfold Yt;refine⟨⟨f0,f2,f17,f18,B4,j+1,ZD,rfl,fun y hy=>?_⟩,?_⟩
   ·rw[Yl _ j (by rw[rl];exact ZD),List.mem_append]at hy;rcases hy with hy|hy
    ·exact hz y hy
    ·rw[Em j ZD,←S6]at hy;have:y=x.1:=by simpa using hy
     rw[this];exact hex
   ·simp only[vi,Zi,↓reduceIte,f19];omega
  ·have w4:=wz g4 B4;have r4:=rr g4 B4;have l4:=Za (rz g4 B4);simp -implicitDefEqProofs only[go_sem,↓reduceIte,hex,w4,r4,f2,l4];refine⟨b1.trans (B4.mono (by omega)),?_⟩;unfold GM;have:Qc (Yq xs)=x.1.err:=by
    have:=IE (l:=Yq xs) (j:=j) (by rw[rl];exact ZD) hz (by rw[Em j ZD,←S6];exact hex);rw[this,Em j ZD,←S6]
   rw[e2,this,if_neg hex];rfl
 have YJ:¬(j:Int)<xs.length:=by omega
 obtain rfl:j=xs.length:=by omega
 have Xk:∀x∈Yq xs,x.err=0:=fun x hx=>hz x (by rw[List.take_of_length_le (by omega)];exact hx);have hzero:VI (Yq xs)=0:=by rw[e2];exact SG Xk
 have inv:=inv Xk ZcQ;simp -implicitDefEqProofs only[go_sem,↓reduceIte,f18,f19,YJ];refine (rQ T g2 SI (N0 g2)).use ?_;rintro _ g3 ⟨wb,ZqW,o3,tU,rfl,K3,A3⟩;unfold Zp;have bh2:Zf h.size h g2:=b1.trans (b2.mono (by omega));have kh2:Kp VG SI h SI g2:=Kp.Ks (N0 h) bh2 _;obtain⟨acs,yn⟩:=Zx ((Yq xs).map Raw.ac);have ZhD:acs.length=xs.length:=by rw[yn,List.length_map,rl]
 have inv:∀j,j≤xs.length→WOk (OT (acs.take j)):=fun j hj=>by
  have:=inv j hj;rw[yn,←List.map_take];exact this
 simp -implicitDefEqProofs only[go_sem,↓reduceIte,f0,f2];refine VS.ZW (fun F g=>F 2=.pointer (some ⟨h.size,0,none⟩)∧F 7=.pointer (some ⟨wb,0,none⟩)∧F 31=.slice p xs.length c∧F 32=.int .i64 xs.length∧∃(j:Nat) (o':Ow) (Yb:Nat→Nat) (XA:WA),j≤xs.length∧F 33=.int .i64 j∧Kp VG SI g2 o' g∧Ju o' g wb Yb XA (OT (acs.take j)))
  (fun F _=>xs.length-(vi (F 33)).toNat) rfl ⟨f2,rfl,rfl,rfl,0,o3,ZqW,tU,Nat.zero_le _,rfl,K3,A3⟩ ?_
 clear f0 f2 f17 f18 f19 K3 A3;rintro F4 g4 ⟨f2,f7,f31,f32,j,o4,ZqX,fj,hj,f33,K4,A4⟩;by_cases ZD:j<xs.length
 ·have ZL:(j:Int)<xs.length:=by omega
  obtain⟨bb,oo,rfl,Wi,O3⟩:=YS (by intro e;rw[e]at ZD;simp at ZD);obtain⟨x,S6⟩:=Zx (xs[j]);have hxm:x∈xs:=by rw[S6];exact List.getElem_mem ZD
  have hxe:x.1.err=0:=Xk x.1 (by unfold Yq;exact List.mem_map_of_mem hxm);obtain⟨q1,q2,q3,q4,q5⟩:=El hxe;have Kh4:Kp VG SI h o4 g4:=kh2.trans K4;have iv:=(hx x hxm).Zd Kh4;obtain⟨pd,cd,O1⟩:=iv.1.isSlice;have r1:rd g4 ⟨bb,oo+j*5,none⟩ 5=some (Jv x):=by rw[JQ (PH Kh4) Wi,S6];exact O3 j ZD
  unfold Jv To at r1;rw[O1]at r1 iv;obtain⟨g5,rD⟩:=Zx (g4.push (.cells (To x.1.k x.1.n x.1.a x.1.b (.slice pd x.1.data.length cd)).toArray 58):Hp);have e5:=rD.symm;have k5:Kp QM o4 g4 o4 g5:=by rw[rD];exact ZY K4.ZX _
  have y5:g5[g4.size]? = some (.cells (To x.1.k x.1.n x.1.a x.1.b (.slice pd x.1.data.length cd)).toArray 58):=by rw[rD];exact Zb
  have r5:rd g5 ⟨g4.size,0,none⟩ 5=some (To x.1.k x.1.n x.1.a x.1.b (.slice pd x.1.data.length cd)):=Zq y5 rfl;unfold To at e5 r5;have en:((x.1.n.toNat:Nat):Int)=x.1.n:=by omega
  have ea:((x.1.a.toNat:Nat):Int)=x.1.a:=by omega
  have cd2:=ZcK T g5 o4 wb ZqX fj (OT (acs.take j)) x.1.ac (.slice pd x.1.data.length cd) k5.ZX (A4.still k5) (inv j hj) q1 (by unfold Raw.ac;simp only;omega) (iv.Zd k5) (by unfold Raw.ac;simp only;omega) ((tb.Zd Kh4).Zd k5);unfold Zp To Raw.ac at cd2;simp only at cd2;rw[en,ea]at cd2;have YX:OT (acs.take (j+1))=act (OT (acs.take j)) ⟨x.1.k,x.1.n.toNat,x.1.a.toNat,x.1.b,x.1.data⟩:=by
   rw[Yl _ j (by rw[ZhD];exact ZD)];unfold OT;rw[List.foldl_append];have:acs[j]'(by rw[ZhD];exact ZD)=⟨x.1.k,x.1.n.toNat,x.1.a.toNat,x.1.b,x.1.data⟩:=by
    simp only[yn,List.getElem_map,Em j ZD,←S6];rfl
   rw[this];rfl
  simp -implicitDefEqProofs only[go_sem,↓reduceIte,f2,f7,f31,f32,f33,ZL,r1,e5,r5];refine cd2.use ?_;rintro v' g6 ⟨o6,WA6,ZqZ,k6,A6⟩;simp -implicitDefEqProofs only[go_sem,↓reduceIte,f33];unfold Yt;refine⟨⟨f2,f7,f31,f32,j+1,o6,ZqZ,WA6,ZD,rfl,(K4.trans (Ye k5)).trans k6,by rw[YX];exact A6⟩,?_⟩;simp only[vi,Zi,↓reduceIte,f33];omega
 have YJ:¬(j:Int)<xs.length:=by omega
 obtain rfl:j=xs.length:=by omega
 rw[List.take_of_length_le (by omega)]at A4;have okW:=inv xs.length (Nat.le_refl _);rw[List.take_of_length_le (by omega)]at okW;obtain⟨w,hw⟩:=Zx (OT acs);rw[←hw]at A4 okW;have U4:=Y8 A4.wd.ZG.2;have U4o:=U4.out;have Zq0:=Za A4.wd.ZG.2;obtain⟨pf,cf,hpf,_⟩:=Tn A4.wd.Zn;obtain⟨pt,ct,lH,_⟩:=A4.wd.told.isSlice;obtain⟨tv,htv⟩:=Zx (fj.told);rw[lH]at U4o htv;obtain⟨kb,tC⟩:=Zx (g4.size);obtain⟨g5,rD⟩:=Zx (g4.push (.cells [.int .i64 0,.bool false,.bool false,.bool false,.bool false,.bool false,.slice none 0 0,.int .i64 (w.bad 0),.int .i64 (w.bad 1),.int .i64 (w.bad 2),.int .i64 (w.bad 3),.int .i64 (w.bad 4),.slice pt w.told.length ct].toArray 28):Hp);have e5:=rD.symm;have y5:g5[kb]? = some (.cells [.int .i64 0,.bool false,.bool false,.bool false,.bool false,.bool false,.slice none 0 0,.int .i64 (w.bad 0),.int .i64 (w.bad 1),.int .i64 (w.bad 2),.int .i64 (w.bad 3),.int .i64 (w.bad 4),.slice pt w.told.length ct].toArray 28):=by rw[rD,tC];exact Zb
 have k5:Kp QM o4 g4 o4 g5:=by rw[rD];exact ZY K4.ZX _
 obtain⟨g6,Rt⟩:=Zx (g5.setIfInBounds kb (.cells (CW w 0 (.slice none 0 0) (.slice pt w.told.length ct)).toArray 28):Hp);have w6:JJ g5 ⟨kb,0,none⟩ (.int .i64 w.Zn.length)=some g6:=by rw[YC y5 0 _,Rt];rfl
 have l5:=Za y5;obtain⟨o6,ho6⟩:=Zx (JO o4 kb (.log 101));have k6:Kp cy o4 g4 o6 g6:=by rw[ho6,Rt];exact ((ZF k5).Sj (by omega) l5 (.inr rfl)).AQ (by omega) _
 have B6:Q2 o6 (.log 101) g6 kb (.cells (CW w 0 (.slice none 0 0) (.slice pt w.told.length ct)).toArray 28):=⟨by rw[ho6];exact Y9,by rw[Rt];exact Zy y5⟩
 have A5:=A4.still k5;have U5:=Y8 A5.wd.ZG.2;have U5f:=U5.Zn;rw[hpf]at U5f;have bN:=Za A5.wd.ZG.2;have nof:∀t,cy t→t.of≠none:=by rintro t (rfl|rfl) e<;>cases e
 have non:∀t (i:Nat),i<5→cy t→t.of≠some i:=by
  rintro t i hi (rfl|rfl) e
  ·have:=Option.some.inj e;omega
  ·have:=Option.some.inj e;omega
 have W6:=A4.wd.Zd k6 nof;obtain⟨bn,Zq2,cn,hn,nh,hbn,ZcR⟩:=Ww W6;have U6n:=(Y8 W6.ZG.2).nodes;rw[hn]at U6n;have ZhE:=Za W6.ZG.2;simp -implicitDefEqProofs only[go_sem,↓reduceIte,f32,f33,YJ,f2,f7,U4o,Zq0,e5];rw[←tC];simp -implicitDefEqProofs only[go_sem,↓reduceIte,f7,U5f,bN,w6,l5,U6n,ZhE];refine VS.ZW (fun F g=>F 2=.pointer (some ⟨h.size,0,none⟩)∧F 10=.pointer (some ⟨kb,0,none⟩)∧F 54=.slice (some ⟨bn,Zq2,none⟩) 5 cn∧F 55=.int .i64 5∧∃(j:Nat) (o':Ow) (lv:Value) (vs:List Value),j≤5∧F 56=.int .i64 j∧Kp cy o4 g4 o' g∧Q2 o' (.log 101) g kb (.cells (CW w j lv (.slice pt w.told.length ct)).toArray 28) ∧
   YG o' (.log 100) 34 1 g lv j vs∧Dm (fun v l=>Im o' 5 g v l.length (Zz Js.C l)∧∀b,ZO v=some b→g4.size≤b) vs (N9 w j))
  (fun F _=>5-(vi (F 56)).toNat) rfl ⟨f2,rfl,rfl,rfl,0,o6,.slice none 0 0,[],by omega,rfl,k6,B6,YG.nil _ _ _ _ _,.nil⟩ ?_
 clear f2 f7 f31 f32 f33 B6 k6 w6 l5 U6n ZhE W6 ZcR hbn ho6 Rt y5 e5;rintro F7 g7 ⟨f2,f10,f54,f55,j,o7,lv,vs,hj,f56,K7,B7,O7,L7⟩;have W7:=A4.wd.Zd K7 nof;by_cases ZD:j<5
 ·have ZL:(j:Int)<5:=by omega
  obtain⟨na,N4j⟩:=A4.nd j ZD;have N7:=N4j.Zd K7 (fun t q=>non t j ZD q);obtain⟨bn',Zv0,cn',RD,ZDo,hbn,ZcR⟩:=Ww W7;rw[hn]at RD;simp only[Value.slice.injEq,Option.some.injEq,Addr.mk.injEq,true_and,and_true]at RD;obtain⟨⟨rfl,rfl⟩,rfl⟩:=RD;have ri:=ZcR j ZD;unfold Zp at ri;have P7:=ZA N7.ZG.2 N7.pt.store.len;have P7u:=P7.up;have Zcw:=Za N7.ZG.2;have l7:=Za B7.2;obtain⟨g8,Hz⟩:=Zx (g7.setIfInBounds kb (.cells (CW w (j+1) lv (.slice pt w.told.length ct)).toArray 28):Hp);have w8:JJ g7 ⟨kb,1+j,none⟩ (.bool (w.nodes j).up)=some g8:=by
   rw[YC B7.2,if_pos ⟨by rw[fB];omega,rfl⟩,ZcP w j lv _ ZD,Hz]
  have k8:Kp cy o7 g7 o7 g8:=by rw[Hz];exact (Kp.refl K7.ZX cy).set B7.1 (.inr rfl) _
  have k8':Kp (fun t=>t=.log 101) o7 g7 o7 g8:=by rw[Hz];exact (Kp.refl K7.ZX (fun t=>t=.log 101)).set B7.1 rfl _
  have B8:Q2 o7 (.log 101) g8 kb (.cells (CW w (j+1) lv (.slice pt w.told.length ct)).toArray 28):=⟨B7.1,by rw[Hz];exact Zy B7.2⟩
  have O8:=O7.Zd k8' (by intro e;cases e);have L8:=Nf L7 (R':=fun v l=>Im o7 5 g8 v l.length (Zz Js.C l)∧∀b,ZO v=some b→g4.size≤b) (fun v l q=>⟨q.1.Zd k8,q.2⟩);have K8:=K7.trans k8;have N8:=N7.Zd k8 (fun t q=>non t j ZD q);have P8l:=(ZA N8.ZG.2 N8.pt.store.len).log;obtain⟨pl,cl,L0,_⟩:=YG.isSlice N8.pt.log;have L0:na.log=.slice pl (w.nodes j).log.length cl:=L0;rw[L0]at P8l;have Tl:=N8.pt.log.ts;rw[L0]at Tl;have xO:=Za N8.ZG.2;have l8:=Za B8.2;obtain⟨plv,clv,rfl,_⟩:=O8.isSlice;have r8:hc g8 ⟨kb,6,none⟩=some (.slice plv j clv):=Zh B8.2;have cc:=bY T g8 (.slice pl (w.nodes j).log.length cl) (w.nodes j).log Tl (by have:=okW.log j ZD;omega);simp -implicitDefEqProofs only[go_sem,↓reduceIte,f2,f10,f54,f55,f56,ZL,ri,P7u,Zcw,w8,l7,hbn];refine VS.z (g8.size) [8,10] (.p 0 (.q 1 (.p 2 (.p 3 (.p 4 (.q 5 (.s 6 (.s 7 (.w 8 (.p 9 (.w 10 .nil))))))))))) mixed (by kernel_rfl) ?_;simp -implicitDefEqProofs only[go_sem,↓reduceIte,f2,f10,r8,P8l,xO,l8];refine cc.use ?_;rintro v9 g9 ⟨o9,b9⟩;have k9:Kp QM o7 g8 o7 g9:=ZE K8.ZX b9;have im9:Im o7 5 g9 v9 (w.nodes j).log.length (Zz Js.C (w.nodes j).log):=Im.Ue o9.own (fun b hb=>K8.ZX b hb);have lo9:∀b,ZO v9=some b→g4.size≤b:=fun b hb=>Nat.le_trans K8.size (o9.own.ZG b hb);obtain⟨p9,c9,rfl⟩:=im9.isSlice;obtain⟨g10,yo⟩:=Zx (g9.push (.cells [.slice p9 (w.nodes j).log.length c9].toArray 34):Hp);have e10:=yo.symm;have jA:Kp QM o7 g9 o7 g10:=by rw[yo];exact ZY k9.ZX _
  have K10:Kp cy o4 g4 o7 g10:=(K8.trans (ZF k9)).trans (ZF jA);have B10:=(B8.Zd k9 (fun q=>q)).Zd jA (fun q=>q);have O10:=(O8.Zd k9 (fun q=>q)).Zd jA (fun q=>q);have Zq4:=im9.Zd jA;have x10:g10[g9.size]? = some (.cells [.slice p9 (w.nodes j).log.length c9].toArray 34):=by rw[yo];exact Zb
  have src:Sl 1 g10 (.slice (some ⟨g9.size,0,none⟩) 1 1) 1 [.slice p9 (w.nodes j).log.length c9]:=⟨_,1,rfl,rfl,fun _=>⟨g9.size,0,rfl,fun i hi=>by
   rw[Zh x10,Yh,Nat.zero_add];exact List.getElem?_eq_getElem hi⟩⟩
  simp -implicitDefEqProofs only[go_sem,↓reduceIte,b9,e10];refine⟨by rw[yo];exact b9.Yi b9.size _,?_⟩;refine Jf (E:=34) (n:=1) (bytes:=24) (k:=1) Zfd Tryz.underlying24 ZlP ZlR rfl ZlQ O10 K10.ZX src rfl (by omega) (by omega) ?_;intro v11 o11 tQ O11 lu _;have lu:Kp (fun u=>u=.log 100) o7 g10 o11 tQ:=lu;obtain⟨p11,c11,rfl,_⟩:=O11.isSlice;have B11:=B10.Zd lu (by intro e;cases e);have l11:=Za B11.2;obtain⟨g12,DI⟩:=Zx (tQ.setIfInBounds kb (.cells (CW w (j+1) (.slice p11 (j+1) c11) (.slice pt w.told.length ct)).toArray 28):Hp);have w12:JJ tQ ⟨kb,6,none⟩ (.slice p11 (j+1) c11)=some g12:=by
   rw[YC B11.2,if_pos ⟨by rw[fB];omega,rfl⟩,yk,DI]
  have xj:Kp (fun t=>t=.log 101) o11 tQ o11 g12:=by rw[DI];exact (Kp.refl lu.ZX (fun t=>t=.log 101)).set B11.1 rfl _
  have B12:Q2 o11 (.log 101) g12 kb (.cells (CW w (j+1) (.slice p11 (j+1) c11) (.slice pt w.told.length ct)).toArray 28):=⟨B11.1,by rw[DI];exact Zy B11.2⟩
  simp -implicitDefEqProofs only[go_sem,↓reduceIte,f10,w12,l11,f56];unfold Yt;refine⟨⟨f2,f10,f54,f55,j+1,o11,.slice p11 (j+1) c11,vs++[.slice p9 (w.nodes j).log.length c9],ZD,rfl,(K10.trans (lu.mono fun t q=>.inl q)).trans (xj.mono fun t q=>.inr q),B12,O11.Zd xj (by intro e;cases e),?_⟩,?_⟩
  ·rw[CX];refine CI (Nf L8 fun v l q=>⟨((((q.1.Zd k9).Zd jA).Zd lu).Zd xj),q.2⟩) ⟨(Zq4.Zd lu).Zd xj,lo9⟩
  ·simp only[vi,Zi,↓reduceIte,f56];omega
 have YJ:¬(j:Int)<5:=by omega
 obtain rfl:j=5:=by omega
 have bx7:ZR o7 g7 h.size (.cells lJ.toArray 28):=ZR.Zd (ZR.Zd (o:=SI) ⟨rfl,rz g2 b2⟩ K4) K7;have rk:rd g7 ⟨kb,0,none⟩ 13=some (CW w 5 lv (.slice pt w.told.length ct)):=Zq B7.2 rfl;obtain⟨g8,Hz⟩:=Zx (g7.setIfInBounds h.size (.cells (CW w 5 lv (.slice pt w.told.length ct)).toArray 28):Hp);have w8:wr g7 ⟨h.size,0,none⟩ (CW w 5 lv (.slice pt w.told.length ct))=some g8:=by
  obtain⟨plv,clv,rfl,_⟩:=O7.isSlice;rw[ZU bx7.2 0 _,Hz];rfl
 have l7:=Za bx7.2;have r8:rd g8 ⟨h.size,0,none⟩ 13=some (CW w 5 lv (.slice pt w.told.length ct)):=Zq (by rw[Hz];exact Zy bx7.2) rfl;have K7a:Kp VG SI h o7 g7:=(kh2.trans K4).trans (Ye K7);have vl:vs.length=5:=by have:=O7.length;omega
 have bound:h.size<g4.size:=Nat.lt_of_lt_of_le (Za (rz g2 b2)) K4.size;rw[show CW w 5 lv (.slice pt w.told.length ct)=bZ w lv (.slice pt w.told.length ct) from rfl]at rk w8 r8;unfold bZ at rk w8 r8;simp -implicitDefEqProofs only[go_sem,↓reduceIte,f55,f56,YJ,f2,f10,rk,w8,l7,r8];refine⟨by rw[Hz];exact (PH K7a).Zm (Nat.le_refl _) _,?_⟩;unfold GM;rw[hzero,if_pos rfl,←yn,←hw];refine⟨_,lv,.slice pt w.told.length ct,vs,rfl,fun G hG=>?_⟩;have wt:=W7.told;rw[lH]at wt;have YA:∀b,b<g7.size→b≠h.size→G[b]? = g8[b]? → G[b]? = g7[b]?:=fun b _ h2 e=>by rw[e,Hz,Array.getElem?_setIfInBounds,if_neg (fun e=>h2 e.symm)]
 have hs8:g8.size=g7.size:=by rw[Hz];simp
 have own:∀t,∀b,o7 b=some t→b<g7.size→G[b]? = g7[b]?:=fun t b q1 q2=>YA b q2 (fun e=>by rw[e,bx7.1]at q1;cases q1) (hG b (CY K7a q1) (by omega));refine⟨rfl,⟨by rw[j0,vl];exact (fE O7 (own _)).sl⟩,?_,⟨(fE wt (own _)).sl⟩,Nf (k:=N9 w 5) L7 fun v l q=>q.1.fits⟩;refine Nf (k:=N9 w 5) L7 fun v l q=>⟨ZhC q.1 fun b hb ZD=>?_⟩
 have:=q.2 b hb;exact YA b ZD (by omega) (hG b (by omega) (by omega))
structure CmI (C:List Cm) (w v:Wd) (m:Nat):Prop where
 nd:∀i,i<5→Qb C i (v.nodes i)
 PM:∀i,i<5→∀l∈(v.nodes i).inbox,Qa C l
 LM:v.Zn=w.Zn
 sum:PG (fun i=>(v.nodes i).inbox.length)≤PG (fun i=>(w.nodes i).inbox.length)+m
 wait:PG (fun i=>(v.nodes i).waiting.length)=PG (fun i=>(w.nodes i).waiting.length)
 told:v.told=w.told
 bad:v.bad=w.bad
theorem cC {C:List Cm} {w:Wd} {l:Xj} (h1:∀i,i<5→Qb C i (w.nodes i)) (h2:∀i,i<5→∀l∈(w.nodes i).inbox,Qa C l) (hl:Qa C l):CmI C w (WC w l) 1:=by
 have hto:l.to.toNat<5:=by have:=hl.to;omega
 unfold WC;split
 ·refine⟨fun i hi=>?_,fun i hi x hx=>?_,rfl,?_,?_,rfl,rfl⟩
  ·unfold Wd.set;by_cases e:i=l.to.toNat
   ·simp only[if_pos e];rw[e];exact { h1 _ hto with }
   ·simp only[if_neg e];exact h1 i hi
  ·unfold Wd.set at hx;by_cases e:i=l.to.toNat
   ·simp only[if_pos e]at hx;rcases List.mem_append.1 hx with hx|hx
    ·exact h2 _ hto x hx
    ·have:x=l:=by simpa using hx
     rw[this];exact hl
   ·simp only[if_neg e]at hx;exact h2 i hi x hx
  ·have:=Nb w l.to.toNat { w.nodes l.to.toNat with inbox:=(w.nodes l.to.toNat).inbox++[l] } (fun n=>n.inbox.length) hto;unfold Wd.set;simp only[List.length_append,List.length_singleton]at this ⊢;omega
  ·have:=Nb w l.to.toNat { w.nodes l.to.toNat with inbox:=(w.nodes l.to.toNat).inbox++[l] } (fun n=>n.waiting.length) hto;unfold Wd.set;simp only at this ⊢;omega
 ·exact⟨h1,h2,rfl,by omega,rfl,rfl,rfl⟩
theorem yp {C:List Cm}:∀(ls:List Xj) (w:Wd),(∀i,i<5→Qb C i (w.nodes i))→(∀i,i<5→∀l∈(w.nodes i).inbox,Qa C l)→(∀l∈ls,Qa C l)→CmI C w (ls.foldl WC w) ls.length:=by
 intro ls
 induction ls with
 | nil=>intro w h1 h2 _;exact⟨h1,h2,rfl,by simp,rfl,rfl,rfl⟩
 | cons l ls ih=>
  intro w h1 h2 h3;have a:=cC h1 h2 (h3 l (by simp));have b:=ih (WC w l) a.nd a.PM (fun x hx=>h3 x (by simp[hx]));refine⟨b.nd,b.PM,by rw[List.foldl_cons,b.LM,a.LM],?_,by rw[List.foldl_cons,b.wait,a.wait],by rw[List.foldl_cons,b.told,a.told],by rw[List.foldl_cons,b.bad,a.bad]⟩;have h4:=b.sum;have h5:=a.sum;simp only[List.foldl_cons,List.length_cons];omega
theorem WI.yq {C:List Cm} {k:Nat} {w u v:Wd} {m:Nat} (h:WI C k w) (c:CmI C u v m) (hu1:u.nodes=w.nodes) (hu2:∀l∈u.Zn,l∈w.Zn) (hu3:u.told=w.told) (hu4:u.bad=w.bad) (hm:u.Zn.length+m≤w.Zn.length+1):WI C (k+1) v:=by
 have hs:=c.sum;have hw:=c.wait;rw[hu1]at hs hw;have h1:=h.room;have h2:=h.wait;refine⟨c.nd,c.PM,fun l hl=>h.LM l (hu2 l (by rw[←c.LM];exact hl)),?_,?_,fun i=>by rw[c.bad,hu4];have:=h.bad i;omega⟩
 ·rw[c.LM];omega
 ·rw[c.told,hu3,hw];omega
theorem ZcS {C:List Cm} {k:Nat} {w:Wd} (h:WI C k w) (at':Nat) (comes stays:Bool):WI C (k+1) (pick w at' comes stays):=by
 unfold pick;split
 ·exact h.more
 ·rename_i l hl;have eG:l∈w.Zn:=List.mem_of_getElem? hl;have hll:=h.LM l eG;have el:(w.Zn.eraseIdx (at'%w.Zn.length)).length+1≤w.Zn.length+1:=by
   have:=List.length_eraseIdx_le w.Zn (at'%w.Zn.length);omega
  have el2:(w.Zn.eraseIdx (at'%w.Zn.length)).length≤w.Zn.length:=by omega
  cases comes with
  | true=>
   cases stays with
   | true=>exact h.yq (u:=w) (cC h.nd h.PM hll) rfl (fun l q=>q) rfl rfl (by omega)
   | false=>exact h.yq (u:={ w with Zn:=w.Zn.eraseIdx (at'%w.Zn.length) }) (cC h.nd h.PM hll) rfl (fun l q=>List.mem_of_mem_eraseIdx q) rfl rfl el
  | false=>
   cases stays with
   | true=>exact h.more
   | false=>exact h.yq (u:={ w with Zn:=w.Zn.eraseIdx (at'%w.Zn.length) }) (m:=0) ⟨h.nd,h.PM,rfl,by simp,rfl,rfl,rfl⟩ rfl (fun l q=>List.mem_of_mem_eraseIdx q) rfl rfl (by simp only;omega)
def PI (rc:List Nat):Cm:=⟨Xq ((Xv rc).drop 22) 0,Xq ((Xv rc).drop 22) 1,Xq ((Xv rc).drop 22) 2,Xq ((Xv rc).drop 22) 3,Xq ((Xv rc).drop 22) 4⟩
theorem rT (n:Nd) (x:Cm):(NV n x).waiting.length≤n.waiting.length+1:=by
 unfold NV;split
 ·omega
 ·simp
theorem rU {C:List Cm} {k:Nat} {w:Wd} (h:WI C k w) {i:Nat} (hi:i<5) {rc:List Nat} (hc:PI rc∈C):WI C (k+1) (Py w i rc):=by
 unfold Py;split
 ·split
  ·refine⟨h.nd,h.PM,h.LM,Nat.le_trans h.room (Nat.mul_le_mul_right _ (Nat.le_succ k)),Nat.le_trans h.wait (Nat.le_succ k),fun j=>?_⟩;have h1:=h.bad j;have h2:=h.bad i;simp only;split<;>omega
  ·rename_i q;have e:Jt rc (w.nodes i).log.length=PI rc:=by
    unfold Jt PI;rw[if_pos (by simpa using q)]
   rw[e];split
   ·have hw:=h.wait;refine⟨h.nd,h.PM,h.LM,Nat.le_trans h.room (Nat.mul_le_mul_right _ (Nat.le_succ k)),by simp only[List.length_append,List.length_singleton];omega,fun j=>by have:=h.bad j;simp only;omega⟩
   ·rw[Vj];have ha:=Zal (h.nd i hi) hc;have s1:(add (w.nodes i) (PI rc)).inbox=(w.nodes i).inbox:=by unfold add;split<;>rfl
    have s2:(NV (add (w.nodes i) (PI rc)) (PI rc)).inbox=(w.nodes i).inbox:=by unfold NV;split<;>exact s1
    have s3:=rT (add (w.nodes i) (PI rc)) (PI rc);have s4:=(add_same (w.nodes i) (PI rc)).1;refine h.out hi ?_ (fun l hl=>by cases hl) (by simp only[s2];exact h.PM i hi) (by simp only[s2];simp) (by simp only[List.length_nil];rw[s4]at s3;omega);unfold NV;simp only;split
    ·exact ha
    ·exact { ha with }
 ·exact h.more
theorem Zao {C:List Cm} (hC:C.length≤100000) {k:Nat} {w:Wd} (h:WI C k w) (a:Ac) (hi:a.node<5) (hc:PI a.data∈C):WI C (k+1) (act w a):=by
 have hn:=h.nd a.node hi;have hb:=h.PM a.node hi;unfold act;split
 ·exact rU h hi hc
 split
 ·obtain⟨l1,l2,l3⟩:=rO hn;rw[Vj];exact h.out hi l1 (fun l hl=>by cases hl) (by simp only[l2];exact hb) (by simp only[l2];simp) (by simp only[l3];simp)
 split
 ·obtain⟨s1,s2,s3,s4,s5⟩:=ZcI hi hC hn hb;exact h.out hi s1 s2 s3 (by omega) (by omega)
 split
 ·exact ZcS h _ _ _
 split
 ·have c:=yp w.Zn { w with Zn:=[] } h.nd h.PM h.LM;exact h.yq c rfl (fun l hl=>by cases hl) rfl rfl (by simp)
 split
 ·obtain⟨c1,c2⟩:=jZ hn a.Zd;rw[Vj];rcases c2 with⟨c2,c3⟩|c2
  ·exact h.out hi c1 (fun l hl=>by cases hl) (by simp only[c2];intro l hl;cases hl) (by simp only[c2];simp) (by simp only[c3];simp)
  ·exact h.out hi c1 (fun l hl=>by cases hl) (by simp only[c2];exact hb) (by simp only[c2];simp) (by simp only[c2];simp)
 ·obtain⟨c1,c2⟩:=GL hn;rw[Vj];rcases c2 with⟨c2,c3⟩|c2
  ·exact h.out hi c1 (fun l hl=>by cases hl) (by simp only[c2];intro l hl;cases hl) (by simp only[c2];simp) (by simp only[c3];simp)
  ·exact h.out hi c1 (fun l hl=>by cases hl) (by simp only[c2];exact hb) (by simp only[c2];simp) (by simp only[c2];simp)
theorem IF (C:List Cm):WI C 0 VB:=by
 refine⟨fun i hi=>LJ (by simp) HE.zero,(fun i hi l hl=>by cases hl),(fun l hl=>by cases hl),by simp[VB,PG,blank],by simp[VB,PG,blank],fun i=>by simp[VB]⟩
theorem rW {C:List Cm} (hC:C.length≤100000):∀(l:List Ac) (k:Nat) (w:Wd),WI C k w→(∀a∈l,a.node<5∧PI a.data∈C)→WI C (k+l.length) (l.foldl act w):=by
 intro l
 induction l with
 | nil=>intro k w h _;exact h
 | cons a l ih=>
  intro k w h hl;have:=ih (k+1) (act w a) (Zao hC h a (hl a (by simp)).1 (hl a (by simp)).2) (fun x hx=>hl x (by simp[hx]));rw[List.length_cons,show k+(l.length+1)=k+1+l.length by omega];exact this
theorem yu (xs:List (Raw × Value)) (hz:∀x∈Yq xs,x.err=0) (hl:xs.length≤100000) (j:Nat) (hj:j≤xs.length):WOk (OT (((Yq xs).take j).map Raw.ac)):=by
 obtain⟨C,hC⟩:∃C,C=(Yq xs).map fun x=>PI x.data:=⟨_,rfl⟩
 have rl:(Yq xs).length=xs.length:=by unfold Yq;simp
 have wU:C.length≤100000:=by rw[hC,List.length_map,rl];exact hl
 have:=rW wU (((Yq xs).take j).map Raw.ac) 0 VB (IF C) (fun a ha=>by
  obtain⟨x,hx,rfl⟩:=List.mem_map.1 ha;have hx:=List.mem_of_mem_take hx;obtain⟨_,h2,_,_,_⟩:=El (hz x hx);refine⟨by unfold Raw.ac;simp only;omega,?_⟩;rw[hC];exact List.mem_map.2 ⟨x,hx,rfl⟩)
 refine this.ok wU ?_;rw[List.length_map,List.length_take];omega
theorem yv (T:World) (h:Hp) (v:Value) (xs:List (Raw × Value)) (hv:Ts Jv 5 h v xs) (hx:∀x∈xs,VC SI h x.2 x.1.data) (tb:BA SI h) (FQ:xs.length≤4611686018427387904) :
  Zc Tryz.prog T 12 #[v] h fun v' h'=>Zf h.size h h'∧GM h.size h' v' (Yq xs):=
 ym T h v xs hv hx tb FQ fun h1 h2 j hj=>yu xs h1 h2 j hj
def Qj (n m:Int):Int:=(if n<0 then 0-(n+1) else n)%m
theorem Ug (n:Int) {m:Int} (h:0<m):0≤Qj n m∧Qj n m<m:=⟨Int.emod_nonneg _ (by omega),Int.emod_lt_of_pos _ h⟩
def i64 (n:Int):Prop:=-9223372036854775808≤n∧n<9223372036854775808
theorem U6 (T:World) (h:Hp) (n m:Int) (hn:i64 n) (hm:1≤m) (vS:m≤1000000) :
  Zc Tryz.prog T 17 #[.int .i64 n,.int .i64 m] h fun v' h'=>v'=.int .i64 (Qj n m)∧h'=h:=by
 unfold i64 at hn;refine Zc.Zk (args:=[_,_]) Tryz.func17 rfl rfl rfl rfl ?_;have hm0:¬m=0:=by omega
 by_cases q:n<0
 ·have e:Qj n m=(0-(n+1)).tmod m:=by unfold Qj;rw[if_pos q,Int.tmod_eq_emod_of_nonneg (by omega)]
  rw[e];simp -implicitDefEqProofs only[go_sem,↓reduceIte,q,hm0]
 ·have e:Qj n m=n.tmod m:=by unfold Qj;rw[if_neg q,Int.tmod_eq_emod_of_nonneg (by omega)]
  rw[e];simp -implicitDefEqProofs only[go_sem,↓reduceIte,q,hm0]
theorem XU (T:World) (h:Hp) (n m:Int) (hn:i64 n) (hm:1≤m) (vS:m≤1000000) :
  Zc Tryz.prog T 10 #[.int .i64 n,.int .i64 m] h fun v' h'=>v'=.int .i64 (Qj n m)∧h'=h:=by
 refine Zc.Zk (args:=[_,_]) Tryz.func10 rfl rfl rfl rfl ?_;simp -implicitDefEqProofs only[go_sem,↓reduceIte];refine (U6 T h n m hn hm vS).pure ?_;simp -implicitDefEqProofs only[go_sem,↓reduceIte]
def ZhH (k c s n v:Int):List Value:=[.int .i64 k,.int .i64 c,.int .i64 s,.int .i64 n,.int .i64 v]
def cmW (k c s n v:Int):Cm:=⟨1+(Qj k 5).tdiv 2,Qj c 4,Qj s 6,Qj n 4,if 1+(Qj k 5).tdiv 2=1 then Qj v 1000 else 0⟩
theorem CZ (T:World) (h:Hp) (k c s n v:Int) (hk:i64 k) (hc:i64 c) (hs:i64 s) (hn:i64 n) (hv:i64 v) :
  Zc Tryz.prog T 38 #[.agg (ZhH k c s n v).toArray] h fun v' h'=>v'=.agg (cmW k c s n v).C.toArray∧Zf h.size h h':=by
 refine Zc.Zk (args:=[_]) Tryz.func38 rfl rfl rfl rfl ?_;unfold ZhH;simp -implicitDefEqProofs only[go_sem,↓reduceIte];refine VS.w (h.size+2) [16] (.q 0 (.q 1 (.q 2 (.q 3 (.q 4 (.q 5 (.q 6 (.q 7 (.q 8 (.q 9 (.q 10 (.q 11 (.q 12 (.q 13 (.q 14 (.s 15 (.w 16 .nil))))))))))))))))) mixed (by kernel_rfl) ?_;simp -implicitDefEqProofs only[go_sem,↓reduceIte];refine J7 (fun h=>U6 T h k 5 hk (by omega) (by omega)) ?_;simp -implicitDefEqProofs only[go_sem,↓reduceIte];refine J7 (fun h=>U6 T h c 4 hc (by omega) (by omega)) ?_;simp -implicitDefEqProofs only[go_sem,↓reduceIte];refine J7 (fun h=>U6 T h s 6 hs (by omega) (by omega)) ?_;simp -implicitDefEqProofs only[go_sem,↓reduceIte];refine J7 (fun h=>U6 T h n 4 hn (by omega) (by omega)) ?_;have r1:=Ug k (m:=5) (by omega);generalize NK:Qj k 5=K at *;have r2:0≤K.tdiv 2∧K.tdiv 2≤2:=by rw[Int.tdiv_eq_ediv_of_nonneg r1.1];omega
 unfold cmW;rw[NK];generalize K.tdiv 2=J at *;by_cases q:1+J=1
 ·simp -implicitDefEqProofs only[go_sem,↓reduceIte,q];refine⟨Zf.push (by simp) _,(U6 T _ v 1000 hv (by omega) (by omega)).pure ?_⟩;simp -implicitDefEqProofs only[go_sem,↓reduceIte,q];exact⟨rfl,(((Zf.refl _ _).add _).add _).add _⟩
 ·simp -implicitDefEqProofs only[go_sem,↓reduceIte,q];exact⟨Zf.push (by simp) _,rfl,(((Zf.refl _ _).add _).add _).add _⟩
structure Gr where
 k:Int
 a:Int
 b:Int
 c:Int
 d:Int
def Gr.C (g:Gr):List Value:=[.int .i64 g.k,.int .i64 g.a,.int .i64 g.b,.int .i64 g.c,.int .i64 g.d]
def Gr.ok (g:Gr):Prop:=(i64 g.k∧i64 g.a)∧i64 g.b∧i64 g.c∧i64 g.d
def BE (g:Gr):Cm:=cmW g.b g.c g.d g.a g.d
def j1 (g:Gr):Int:=if Qj g.d 17=16 then ((BE g).c+1).tmod 4 else (BE g).c
def j2 (g:Gr):Int:=if Qj g.d 17=15 then 0 else 7
def ZcT (n c r u:Int) (x:Cm):List Nat:=if Vy n c r u x.k x.c x.s x.n x.v=0 then jm n c r u x.k x.c x.s x.n x.v else []
def Tp (g:Gr):List Nat:=ZcT (Qj g.a 1000) (j1 g) (j2 g) 60 (BE g)
def SJ (g:Gr):List Nat:=if Qj g.d 23=22∧30<(Tp g).length then (Tp g).take 30 else Tp g
theorem En (T:World) (h:Hp) (g:Gr) (hg:g.ok) (tk:Tk h) :
  Zc Tryz.prog T 22 #[.agg g.C.toArray] h fun v' h'=>Z0 h.size 5 h' v' (SJ g)∧Zf h.size h h':=by
 obtain⟨⟨wk,wa⟩,wb,wc,wd⟩:=hg;refine Zc.Zk (args:=[_]) Tryz.func22 rfl rfl rfl rfl ?_;unfold Gr.C;have c1:∀h:Hp,Zc Tryz.prog T 38 #[.agg #[.int .i64 g.b,.int .i64 g.c,.int .i64 g.d,.int .i64 g.a,.int .i64 g.d]] h fun v' h'=>v'=.agg (BE g).C.toArray∧Zf h.size h h':=fun h=>CZ T h g.b g.c g.d g.a g.d wb wc wd wa wd;obtain⟨h0,XR⟩:=Zx (h.push (.cells g.C.toArray 61):Hp);have y0:h0[h.size]? = some (.cells g.C.toArray 61):=by rw[XR];exact Zb
 have b0:Zf h.size h h0:=by rw[XR];exact (Zf.refl _ _).add _
 have e0:=XR.symm;unfold Gr.C at e0 y0;have s0:h0.size=h.size+1:=by rw[XR];simp
 have l0:=Za y0;have u1:hc h0 ⟨h.size,1,none⟩=some (.int .i64 g.a):=Zh y0;have u2:hc h0 ⟨h.size,2,none⟩=some (.int .i64 g.b):=Zh y0;have u3:hc h0 ⟨h.size,3,none⟩=some (.int .i64 g.c):=Zh y0;have u4:hc h0 ⟨h.size,4,none⟩=some (.int .i64 g.d):=Zh y0;simp -implicitDefEqProofs only[go_sem,↓reduceIte,e0,u1,u2,u3,u4,l0];refine (c1 h0).use ?_;rintro _ h1 ⟨rfl,b1⟩;have B1:Zf h.size h h1:=b0.trans (b1.mono b0.size);have s1:=b1.size;have y1:=b1.get l0 y0;obtain⟨X,hX⟩:=Zx (BE g);rw[←hX];have hXc:0≤X.c∧X.c<4:=by rw[hX];exact Ug g.c (by omega)
 obtain⟨h2,Uz⟩:=Zx ((h1.push (.cells X.C.toArray 47)).push (.cells [.int .i64 X.c,.int .i64 7,.int .i64 60].toArray 121):Hp);have e2:=Uz.symm;unfold Js.C Qp at e2 ⊢;have y4:hc h2 ⟨h.size,4,none⟩=some (.int .i64 g.d):=by
  have:h2[h.size]? = some (.cells [.int .i64 g.k,.int .i64 g.a,.int .i64 g.b,.int .i64 g.c,.int .i64 g.d].toArray 61):=by
   rw[Uz,Zt (by simp;omega),Zt (by omega)];exact y1
  exact Zh this
 simp -implicitDefEqProofs only[go_sem,↓reduceIte,e2,y4];refine (XU T h2 g.d 17 wd (by omega) (by omega)).pure ?_;have s2:h2.size=h1.size+2:=by rw[Uz];simp
 have t2:h2[h1.size+1]? = some (.cells [.int .i64 X.c,.int .i64 7,.int .i64 60].toArray 121):=by rw[Uz,Array.getElem?_push,if_pos (by simp)]
 have x2:h2[h1.size]? = some (.cells X.C.toArray 47):=by rw[Uz,Zt (by simp),Zb]
 have b2:Zf h1.size h1 h2:=by rw[Uz];exact ((Zf.refl _ _).add _).add _
 have yg2:=b2.get (Za y1) y1;have B2:Zf h.size h h2:=B1.trans (b2.mono B1.size);have YA:h1.size+1≠h.size:=by have:=B1.size;omega
 have Hw:h1.size+1≠h1.size:=by omega
 clear e2 Uz e0 XR y4;have three:∀tc tr:Int,tc=j1 g→tr=j2 g→∃g3:Hp,g3=h2.setIfInBounds (h1.size+1) (.cells [.int .i64 tc,.int .i64 tr,.int .i64 60].toArray 121)∧Zf h.size h g3∧g3.size=h2.size∧g3[h1.size+1]? = some (.cells [.int .i64 (j1 g),.int .i64 (j2 g),.int .i64 60].toArray 121)∧g3[h1.size]? = some (.cells X.C.toArray 47)∧g3[h.size]? = some (.cells [.int .i64 g.k,.int .i64 g.a,.int .i64 g.b,.int .i64 g.c,.int .i64 g.d].toArray 61):=fun tc tr e1 e2=>by
  refine⟨_,rfl,B2.Zm (by have:=B1.size;omega) _,by simp,?_,?_,?_⟩
  ·rw[←e1,←e2];exact Zy t2
  ·rw[Yf Hw];exact x2
  ·rw[Yf YA];exact yg2
 have rc2:hc h2 ⟨h1.size+1,0,none⟩=some (.int .i64 X.c):=Zh t2;have l2:=Za t2;have h3c:∃g3:Hp,((Qj g.d 17=15∧JJ h2 ⟨h1.size+1,1,none⟩ (.int .i64 0)=some g3)∨(Qj g.d 17=16∧JJ h2 ⟨h1.size+1,0,none⟩ (.int .i64 ((X.c+1).tmod 4))=some g3)∨((¬Qj g.d 17=15∧¬Qj g.d 17=16)∧g3=h2))∧Zf h.size h g3∧g3.size=h2.size∧g3[h1.size+1]? = some (.cells [.int .i64 (j1 g),.int .i64 (j2 g),.int .i64 60].toArray 121)∧g3[h1.size]? = some (.cells X.C.toArray 47)∧g3[h.size]? = some (.cells [.int .i64 g.k,.int .i64 g.a,.int .i64 g.b,.int .i64 g.c,.int .i64 g.d].toArray 61):=by
  by_cases lI:Qj g.d 17=15
  ·obtain⟨g3,Ee,z⟩:=three X.c 0 (by unfold j1;rw[if_neg (by omega),hX]) (by unfold j2;rw[if_pos lI]);exact⟨g3,.inl ⟨lI,by rw[YC t2 1 _,Ee];rfl⟩,z⟩
  by_cases q16:Qj g.d 17=16
  ·obtain⟨g3,Ee,z⟩:=three ((X.c+1).tmod 4) 7 (by unfold j1;rw[if_pos q16,hX]) (by unfold j2;rw[if_neg lI]);exact⟨g3,.inr (.inl ⟨q16,by rw[YC t2 0 _,Ee];rfl⟩),z⟩
  ·obtain⟨g3,Ee,z⟩:=three X.c 7 (by unfold j1;rw[if_neg q16,hX]) (by unfold j2;rw[if_neg lI]);exact⟨g3,.inr (.inr ⟨⟨lI,q16⟩,by rw[Ee];exact OG t2⟩),z⟩
 obtain⟨g3,Iw,B3,s3,t3,x3,y3⟩:=h3c;have ra:hc g3 ⟨h.size,1,none⟩=some (.int .i64 g.a):=Zh y3;have rt:rd g3 ⟨h1.size+1,0,none⟩ 3=some [.int .i64 (j1 g),.int .i64 (j2 g),.int .i64 60]:=Zq t3 rfl;have rx:rd g3 ⟨h1.size,0,none⟩ 5=some [.int .i64 X.k,.int .i64 X.c,.int .i64 X.s,.int .i64 X.n,.int .i64 X.v]:=Zq x3 rfl;have ly:=Za y3;have lt:=Za t3;have lx:=Za x3;have pk:=wI T g3 (Qj g.a 1000) (j1 g) (j2 g) 60 X.k X.c X.s X.n X.v (tk.Je B3);unfold TC Qp at pk;clear three b2 t2 x2 yg2 b1 y1 b0 y0;rcases Iw with⟨lI,w3⟩|⟨q16,w3⟩|⟨⟨lI,q16⟩,e23⟩
 case' inl=>simp -implicitDefEqProofs only[go_sem,↓reduceIte,lI,w3]
 case' inr.inl=>have lI:¬(16:Int)=15:=by decide
 case' inr.inl=>simp -implicitDefEqProofs only[go_sem,↓reduceIte,q16,rc2,w3]
 case' inr.inr=>subst e23
 case' inr.inr=>simp -implicitDefEqProofs only[go_sem,↓reduceIte,lI,q16]
 all_goals
  refine VS.w (g3.size) [] (.q 0 (.q 1 (.q 2 (.q 3 (.q 4 (.s 5 (.q 6 (.q 7 (.q 8 (.q 9 (.q 10 .nil))))))))))) mixed (by kernel_rfl) ?_;simp -implicitDefEqProofs only[go_sem,↓reduceIte,ra,rt,rx,ly,lt,lx];refine J7 (fun h=>XU T h g.a 1000 wa (by omega) (by omega)) ?_;simp -implicitDefEqProofs only[go_sem,↓reduceIte,rt,rx,lt,lx];refine pk.use ?_;rintro _ h4 ⟨⟨w,rfl,o4⟩,b4⟩;have B4:=B3.trans (b4.mono B3.size);have eF:(if Vy (Qj g.a 1000) (j1 g) (j2 g) 60 X.k X.c X.s X.n X.v=0 then jm (Qj g.a 1000) (j1 g) (j2 g) 60 X.k X.c X.s X.n X.v else [])=Tp g:=by unfold Tp ZcT;rw[←hX]
  rw[eF]at o4;have o4:=o4.mono B3.size;obtain⟨p4,c4,rfl,_⟩:=o4.open;have yd:hc h4 ⟨h.size,4,none⟩=some (.int .i64 g.d):=Zh (b4.get ly y3);simp -implicitDefEqProofs only[go_sem,↓reduceIte,yd,b4];refine (XU T h4 g.d 23 wd (by omega) (by omega)).pure ?_;by_cases q22:Qj g.d 23=22
  ·by_cases q30:30<(Tp g).length
   ·have ZcU:((Tp g).length:Int)>30:=by omega
    have eD:SJ g=(Tp g).take 30:=by unfold SJ;rw[if_pos ⟨q22,q30⟩]
    simp -implicitDefEqProofs only[go_sem,↓reduceIte,q22,ZcU];have hf:=o4.own.Rl (m:=30) (by omega);rw[eD];refine⟨⟨?_,fun x hx=>o4.byte x (List.mem_of_mem_take hx)⟩,B4⟩;rw[List.length_take,Nat.min_eq_left (by omega),List.map_take];exact hf
   ·have ZcU:¬((Tp g).length:Int)>30:=by omega
    have eD:SJ g=Tp g:=by unfold SJ;rw[if_neg (fun h=>q30 h.2)]
    simp -implicitDefEqProofs only[go_sem,↓reduceIte,q22,ZcU];rw[eD];exact⟨o4,B4⟩
  ·have eD:SJ g=Tp g:=by unfold SJ;rw[if_neg (fun h=>q22 h.1)]
   simp -implicitDefEqProofs only[go_sem,↓reduceIte,q22];rw[eD];exact⟨o4,B4⟩
def VJ (g:Gr) (cr:Bool):Raw:=
 if Qj g.k 24<3 then ⟨1,Qj g.a 5,0,0,SJ g⟩ else if Qj g.k 24<5 then ⟨2,Qj g.a 5,0,0,[]⟩ else if Qj g.k 24<14 then ⟨3,Qj g.a 5,0,0,[]⟩
 else if Qj g.k 24=14 then ⟨4,0,Qj g.c 20,0,[]⟩ else if Qj g.k 24=15 then ⟨5,0,Qj g.c 20,0,[]⟩ else if Qj g.k 24=16 then ⟨6,0,Qj g.c 20,0,[]⟩
 else if Qj g.k 24=17∧cr=true then ⟨8,Qj g.a 5,0,Qj g.c 90,[]⟩ else if Qj g.k 24=18∧cr=true then ⟨9,Qj g.a 5,0,0,[]⟩ else ⟨7,0,0,0,[]⟩
theorem j3 (T:World) (h:Hp) (g:Gr) (cr:Bool) (hg:g.ok) (tk:Tk h) :
  Zc Tryz.prog T 13 #[.agg g.C.toArray,.bool cr] h fun v' h'=>(∃w,v'=.agg (Jv (VJ g cr,w)).toArray∧Z0 h.size 5 h' w (VJ g cr).data)∧Zf h.size h h':=by
 have pkc:=fun h tk=>En T h g hg tk;obtain⟨⟨wk,wa⟩,wb,wc,wd⟩:=hg;refine Zc.Zk (args:=[_,_]) Tryz.func13 rfl rfl rfl rfl ?_;unfold Gr.C at *;obtain⟨h0,XR⟩:=Zx ((h.push (.cells [.int .i64 g.k,.int .i64 g.a,.int .i64 g.b,.int .i64 g.c,.int .i64 g.d].toArray 61)).push (.cells (To 0 0 0 0 (.slice none 0 0)).toArray 58):Hp);have e0:=XR.symm;have y0:h0[h.size]? = some (.cells [.int .i64 g.k,.int .i64 g.a,.int .i64 g.b,.int .i64 g.c,.int .i64 g.d].toArray 61):=by rw[XR,Zt (by simp),Zb]
 have z0:h0[h.size+1]? = some (.cells (To 0 0 0 0 (.slice none 0 0)).toArray 58):=by rw[XR,Array.getElem?_push,if_pos (by simp)]
 have b0:Zf h.size h h0:=by rw[XR];exact ((Zf.refl _ _).add _).add _
 have u0:hc h0 ⟨h.size,0,none⟩=some (.int .i64 g.k):=Zh y0;have u1:hc h0 ⟨h.size,1,none⟩=some (.int .i64 g.a):=Zh y0;have u3:hc h0 ⟨h.size,3,none⟩=some (.int .i64 g.c):=Zh y0;have ry:rd h0 ⟨h.size,0,none⟩ 5=some [.int .i64 g.k,.int .i64 g.a,.int .i64 g.b,.int .i64 g.c,.int .i64 g.d]:=Zq y0 rfl;have ly:=Za y0;have lz:=Za z0;have rk:=Ug g.k (m:=24) (by omega);unfold To at e0;simp -implicitDefEqProofs only[go_sem,↓reduceIte,e0,u1,u0];refine (XU T h0 g.a 5 wa (by omega) (by omega)).pure ?_;simp -implicitDefEqProofs only[go_sem,↓reduceIte,u0];refine (XU T h0 g.k 24 wk (by omega) (by omega)).pure ?_;obtain⟨A,hA⟩:=Zx (Qj g.a 5);rw[←hA];have fin:∀(g4:Hp) (k n a b:Int) (p:Option Addr) (m c:Nat) (l:List Nat),g4[h.size+1]? = some (.cells (To 0 0 0 0 (.slice none 0 0)).toArray 58)→Zf h.size h g4→Z0 (h.size+2) 5 g4 (.slice p m c) l→VJ g cr=⟨k,n,a,b,l⟩ →
   wr g4 ⟨h.size+1,0,none⟩ [.int .i64 k,.int .i64 n,.int .i64 a,.int .i64 b,.slice p m c]=some (g4.setIfInBounds (h.size+1) (.cells (To k n a b (.slice p m c)).toArray 58)) ∧
   rd (g4.setIfInBounds (h.size+1) (.cells (To k n a b (.slice p m c)).toArray 58)) ⟨h.size+1,0,none⟩ 5=some [.int .i64 k,.int .i64 n,.int .i64 a,.int .i64 b,.slice p m c] ∧
   ((∃w,Value.agg [.int .i64 k,.int .i64 n,.int .i64 a,.int .i64 b,.slice p m c].toArray=.agg (Jv (VJ g cr,w)).toArray∧Z0 h.size 5 (g4.setIfInBounds (h.size+1) (.cells (To k n a b (.slice p m c)).toArray 58)) w (VJ g cr).data)∧Zf h.size h (g4.setIfInBounds (h.size+1) (.cells (To k n a b (.slice p m c)).toArray 58))):=fun g4 k n a b p m c l y4 b4 o4 e=>by
  refine⟨by rw[ZU y4 0 _];rfl,Zq (Zy y4) rfl,⟨.slice p m c,by rw[e];rfl,?_⟩,b4.Zm (by omega) _⟩;rw[e];exact (o4.ZP (by omega) _).mono (by omega)
 have nil:=fun B=>Z0.nil B 5 h0;have c0:Qj g.k 24<3∨(¬Qj g.k 24<3∧Qj g.k 24<5)∨(¬Qj g.k 24<5∧Qj g.k 24<14)∨Qj g.k 24=14∨Qj g.k 24=15∨Qj g.k 24=16∨Qj g.k 24=17∨Qj g.k 24=18∨18<Qj g.k 24:=by omega
 obtain⟨K,hK⟩:=Zx (Qj g.k 24);rw[←hK]at c0 rk ⊢;rcases c0 with c|⟨c,c'⟩|⟨c,c'⟩|c|c|c|c|c|c
 ·simp -implicitDefEqProofs only[go_sem,↓reduceIte,c,ry,ly];refine (pkc h0 (tk.Je b0)).use ?_;rintro w g4 ⟨o4,b4⟩;obtain⟨p,cp,rfl,_⟩:=o4.open;have s0:h0.size=h.size+2:=by rw[XR];simp
  obtain⟨f1,f2,f3⟩:=fin g4 1 A 0 0 p _ cp (SJ g) (b4.get lz z0) (b0.trans (b4.mono b0.size)) (o4.mono (by omega)) (by unfold VJ;rw[←hK,if_pos c,←hA]);have l4:=Za (b4.get lz z0);simp -implicitDefEqProofs only[go_sem,↓reduceIte,f1,f2,l4];exact f3
 ·obtain⟨f1,f2,f3⟩:=fin h0 2 A 0 0 none 0 0 [] z0 b0 (nil _) (by unfold VJ;rw[←hK];rw[if_neg c,if_pos c',←hA]);simp -implicitDefEqProofs only[go_sem,↓reduceIte,c,c',f1,f2,lz];exact f3
 ·obtain⟨f1,f2,f3⟩:=fin h0 3 A 0 0 none 0 0 [] z0 b0 (nil _) (by unfold VJ;rw[←hK];rw[if_neg (by omega),if_neg c,if_pos c',←hA]);have c2:¬K<3:=by omega
  simp -implicitDefEqProofs only[go_sem,↓reduceIte,c,c',c2,f1,f2,lz];exact f3
 ·obtain⟨f1,f2,f3⟩:=fin h0 4 0 (Qj g.c 20) 0 none 0 0 [] z0 b0 (nil _) (by unfold VJ;rw[←hK];rw[c];rfl);have t14:¬(14:Int)<3:=by decide
  simp -implicitDefEqProofs only[go_sem,↓reduceIte,c,u3];refine (XU T h0 g.c 20 wc (by omega) (by omega)).pure ?_;simp -implicitDefEqProofs only[go_sem,↓reduceIte,f1,f2,lz];exact f3
 ·obtain⟨f1,f2,f3⟩:=fin h0 5 0 (Qj g.c 20) 0 none 0 0 [] z0 b0 (nil _) (by unfold VJ;rw[←hK];rw[c];rfl);have t15:¬(15:Int)<3:=by decide
  simp -implicitDefEqProofs only[go_sem,↓reduceIte,c,u3];refine (XU T h0 g.c 20 wc (by omega) (by omega)).pure ?_;simp -implicitDefEqProofs only[go_sem,↓reduceIte,f1,f2,lz];exact f3
 ·obtain⟨f1,f2,f3⟩:=fin h0 6 0 (Qj g.c 20) 0 none 0 0 [] z0 b0 (nil _) (by unfold VJ;rw[←hK];rw[c];rfl);have t16:¬(16:Int)<3:=by decide
  simp -implicitDefEqProofs only[go_sem,↓reduceIte,c,u3];refine (XU T h0 g.c 20 wc (by omega) (by omega)).pure ?_;simp -implicitDefEqProofs only[go_sem,↓reduceIte,f1,f2,lz];exact f3
 ·cases cr with
  | true=>
   obtain⟨f1,f2,f3⟩:=fin h0 8 A 0 (Qj g.c 90) none 0 0 [] z0 b0 (nil _) (by unfold VJ;rw[←hK,c,←hA];rfl);simp -implicitDefEqProofs only[go_sem,↓reduceIte,c,u3];refine (XU T h0 g.c 90 wc (by omega) (by omega)).pure ?_;simp -implicitDefEqProofs only[go_sem,↓reduceIte,f1,f2,lz];exact f3
  | false=>
   obtain⟨f1,f2,f3⟩:=fin h0 7 0 0 0 none 0 0 [] z0 b0 (nil _) (by unfold VJ;rw[←hK,c];rfl);simp -implicitDefEqProofs only[go_sem,↓reduceIte,c,f1,f2,lz];exact f3
 ·cases cr with
  | true=>
   obtain⟨f1,f2,f3⟩:=fin h0 9 A 0 0 none 0 0 [] z0 b0 (nil _) (by unfold VJ;rw[←hK,c,←hA];rfl);simp -implicitDefEqProofs only[go_sem,↓reduceIte,c,f1,f2,lz];exact f3
  | false=>
   obtain⟨f1,f2,f3⟩:=fin h0 7 0 0 0 none 0 0 [] z0 b0 (nil _) (by unfold VJ;rw[←hK,c];rfl);simp -implicitDefEqProofs only[go_sem,↓reduceIte,c,f1,f2,lz];exact f3
 ·obtain⟨f1,f2,f3⟩:=fin h0 7 0 0 0 none 0 0 [] z0 b0 (nil _) (by unfold VJ;rw[←hK,if_neg (by omega),if_neg (by omega),if_neg (by omega),if_neg (by omega),if_neg (by omega),if_neg (by omega),if_neg (by omega),if_neg (by omega)]);have c3:¬K<3:=by omega
  have c5:¬K<5:=by omega
  have c14:¬K<14:=by omega
  have d14:¬K=14:=by omega
  have d15:¬K=15:=by omega
  have d16:¬K=16:=by omega
  have d17:¬K=17:=by omega
  have d18:¬K=18:=by omega
  simp -implicitDefEqProofs only[go_sem,↓reduceIte,c3,c5,c14,d14,d15,d16,d17,d18,f1,f2,lz];exact f3
def j4:Raw:=⟨7,0,0,0,[]⟩
def SK (n:Nat) (a:Raw):Raw:=if a.k=1∧6<n+1 then j4 else a
def Ri (cr:Bool) (st:Nat × List Raw) (g:Gr):Nat × List Raw:=(if (VJ g cr).k=1 then st.1+1 else st.1,st.2++[SK st.1 (VJ g cr)])
def SL (gs:List Gr) (cr:Bool) (j:Nat):Nat × List Raw:=(gs.take j).foldl (Ri cr) (0,[])
def scr (gs:List Gr) (Xx:Nat) (cr:Bool):List Raw:=(SL gs cr Xx).2
theorem GO (gs:List Gr) (cr:Bool) (j:Nat) (hj:j<gs.length):SL gs cr (j+1)=Ri cr (SL gs cr j) gs[j]:=by
 unfold SL;rw[Yl gs j hj,List.foldl_append];rfl
theorem Ng (gs:List Gr) (cr:Bool):∀j,j≤gs.length→(SL gs cr j).2.length=j∧(SL gs cr j).1≤j:=by
 intro j
 induction j with
 | zero=>intro _;exact⟨rfl,Nat.le_refl _⟩
 | succ j ih=>
  intro h;obtain⟨h1,h2⟩:=ih (by omega);rw[GO gs cr j (by omega)];unfold Ri;simp only[List.length_append,List.length_singleton];refine⟨by omega,?_⟩;split<;>omega
theorem C0 (gs:List Gr) (cr:Bool) (j:Nat) (h:gs.length≤j):SL gs cr j=SL gs cr gs.length:=by
 unfold SL;rw[List.take_of_length_le h,List.take_of_length_le (Nat.le_refl _)]
theorem j5 {B:Nat} {h:Hp} {v:Value} {l:List Nat} {o:Ow} (s:Z0 B 5 h v l) (hf:∀b,B≤b→o b=none):VC o h v l:=⟨Im.Ue s.own hf,s.byte⟩
set_option maxHeartbeats 4000000 in
theorem cD (T:World) (h:Hp) (v:Value) (gs:List Gr) (Xx:Nat) (cr:Bool) (hv:Ts Gr.C 5 h v gs) (hg:∀g∈gs,g.ok) (hm:Xx≤1000000) (tk:Tk h) :
  Zc Tryz.prog T 7 #[v,.int .i64 Xx,.bool cr] h fun v' h'=>Zf h.size h h'∧VR v'∧∃ys,Yq ys=scr gs Xx cr∧Ts Jv 5 h' v' ys∧(∀y∈ys,VC SI h' y.2 y.1.data)∧(∀y∈ys,∀b,ZO y.2=some b→h.size≤b)∧∀b,ZO v'=some b→h.size≤b∧b<h'.size:=by
 obtain⟨p,c,rfl,YS⟩:=hv.open (n:=5) (enc:=Gr.C) (fun _=>rfl) (by decide);refine Zc.Zk (args:=[_,_,_]) Tryz.func7 rfl rfl rfl rfl ?_;simp -implicitDefEqProofs only[go_sem,↓reduceIte];refine VS.ZW (fun F g=>(F 0=.slice p gs.length c∧F 1=.int .i64 Xx∧F 2=.bool cr)∧∃(j:Nat) (o:Ow) (ys:List (Raw × Value)),j≤gs.length∧j≤Xx∧F 9=.int .i64 j∧F 8=.int .i64 ((SL gs cr j).1:Nat)∧Kp (fun t=>t=.log 100) SI h o g∧Yq ys=(SL gs cr j).2∧YG o (.log 100) 58 5 g (F 7) ys.length (Zz Jv ys)∧(∀y∈ys,VC o g y.2 y.1.data)∧∀y∈ys,∀b,ZO y.2=some b→h.size≤b)
  (fun F _=>gs.length-(vi (F 9)).toNat) rfl ⟨⟨rfl,rfl,rfl⟩,0,SI,[],Nat.zero_le _,Nat.zero_le _,rfl,rfl,Kp.refl (N0 h) _,rfl,YG.nil _ _ _ _ _,(fun y hy=>by cases hy),fun y hy=>by cases hy⟩ ?_
 rintro F2 g2 ⟨⟨f0,f1,f2⟩,j,o2,ys,hj,hjm,f9,f8,K2,hr,O2,I2,N2⟩;have yl:ys.length=j:=by
  have:=congrArg List.length hr;unfold Yq at this;rw[List.length_map,(Ng gs cr j hj).1]at this;exact this
 obtain⟨p3,c3,f3,hc3⟩:=O2.isSlice;by_cases ZD:j<gs.length∧j<Xx
 ·obtain⟨ZD,Zq8⟩:=ZD;have ZL:(j:Int)<gs.length:=by omega
  have ZhJ:(j:Int)<Xx:=by omega
  obtain⟨bb,oo,rfl,Wi,O3⟩:=YS (by intro e;rw[e]at ZD;simp at ZD);obtain⟨g,zU⟩:=Zx (gs[j]);have hgm:g∈gs:=by rw[zU];exact List.getElem_mem ZD
  have r1:rd g2 ⟨bb,oo+j*5,none⟩ 5=some g.C:=by rw[JQ (PH K2) Wi,zU];exact (O3 j ZD).rd (by simp[Gr.C]) rfl
  have ca:=j3 T g2 g cr (hg g hgm) (tk.Je (PH K2));unfold Gr.C at ca r1;simp -implicitDefEqProofs only[go_sem,↓reduceIte,f0,f1,f2,f9,ZL,ZhJ,r1];refine ca.use ?_;rintro vv g3 ⟨⟨w,hvv,o3⟩,b3⟩;obtain⟨a,ha⟩:=Zx (VJ g cr);rw[←ha]at o3 hvv;obtain⟨p4,c4,rfl,_⟩:=o3.open;have hvv:vv=.agg #[.int .i64 a.k,.int .i64 a.n,.int .i64 a.a,.int .i64 a.b,.slice p4 a.data.length c4]:=by rw[hvv];rfl
  subst hvv;obtain⟨n,hn⟩:=Zx ((SL gs cr j).1);rw[←hn]at f8;have hnj:n≤j:=by rw[hn];exact (Ng gs cr j hj).2
  obtain⟨g4,OZ⟩:=Zx (g3.push (.cells (To a.k a.n a.a a.b (.slice p4 a.data.length c4)).toArray 58):Hp);have e4:=OZ.symm;have y4:g4[g3.size]? = some (.cells (To a.k a.n a.a a.b (.slice p4 a.data.length c4)).toArray 58):=by rw[OZ];exact Zb
  have K3:Kp QM o2 g2 o2 g3:=ZE K2.ZX b3;have k4:Kp QM o2 g3 o2 g4:=by rw[OZ];exact ZY K3.ZX _
  have K4:=K3.trans k4;have i3:VC o2 g3 (.slice p4 a.data.length c4) a.data:=j5 o3 (fun b hb=>K2.ZX b hb);have i4:=i3.Zd k4;have rk:hc g4 ⟨g3.size,0,none⟩=some (.int .i64 a.k):=Zh y4;have l4:=Za y4;have hs3:=b3.size;have h5c:∃(g5:Hp) (q:Option Addr) (cq:Nat),((¬a.k=1∧g5=g4)∨((a.k=1∧¬(n:Int)+1>6)∧g5=g4)∨((a.k=1∧(n:Int)+1>6)∧wr g4 ⟨g3.size,0,none⟩ [.int .i64 7,.int .i64 0,.int .i64 0,.int .i64 0,.slice none 0 0]=some g5)) ∧
    g5[g3.size]? = some (.cells (To (SK n a).k (SK n a).n (SK n a).a (SK n a).b (.slice q (SK n a).data.length cq)).toArray 58)∧Kp QM o2 g2 o2 g5∧VC o2 g5 (.slice q (SK n a).data.length cq) (SK n a).data∧g3.size<g5.size∧∀b,ZO (.slice q (SK n a).data.length cq)=some b→h.size≤b:=by
   have ZhK:∀b,ZO (.slice p4 a.data.length c4)=some b→h.size≤b:=fun b hb=>Nat.le_trans K2.size (o3.own.ZG b hb);by_cases q1:a.k=1
   ·by_cases q6:6<n+1
    ·have eX:SK n a=j4:=by unfold SK;rw[if_pos ⟨q1,q6⟩]
     rw[eX];refine⟨_,none,0,.inr (.inr ⟨⟨q1,by omega⟩,by rw[ZU y4 0 _];rfl⟩),Zy y4,K4.AQ (by omega) _,⟨Im.nil _ 1 _ none,fun x hx=>by cases hx⟩,by simpa using l4,fun b hb=>by simp[ZO]at hb⟩
    ·have eX:SK n a=a:=by unfold SK;rw[if_neg (fun h=>q6 h.2)]
     rw[eX];exact⟨g4,p4,c4,.inr (.inl ⟨⟨q1,by omega⟩,rfl⟩),y4,K4,i4,l4,ZhK⟩
   ·have eX:SK n a=a:=by unfold SK;rw[if_neg (fun h=>q1 h.1)]
    rw[eX];exact⟨g4,p4,c4,.inl ⟨q1,rfl⟩,y4,K4,i4,l4,ZhK⟩
  obtain⟨g5,q,cq,Iw,y5,K5,i5,l5,n5⟩:=h5c;obtain⟨X,hX⟩:=Zx (SK n a);rw[←hX]at y5 i5 n5;have eN:SL gs cr (j+1)=(if a.k=1 then n+1 else n,(SL gs cr j).2++[X]):=by rw[GO gs cr j ZD,←zU];unfold Ri;rw[←ha,←hn,hX]
  have r5:rd g5 ⟨g3.size,0,none⟩ 5=some (To X.k X.n X.a X.b (.slice q X.data.length cq)):=Zq y5 rfl;obtain⟨g6,Rt⟩:=Zx (g5.push (.cells (To X.k X.n X.a X.b (.slice q X.data.length cq)).toArray 58):Hp);have e6:=Rt.symm;have k6:Kp QM o2 g5 o2 g6:=by rw[Rt];exact ZY K5.ZX _
  have x6:g6[g5.size]? = some (.cells (To X.k X.n X.a X.b (.slice q X.data.length cq)).toArray 58):=by rw[Rt];exact Zb
  have src:Sl 5 g6 (.slice (some ⟨g5.size,0,none⟩) 1 1) 1 (To X.k X.n X.a X.b (.slice q X.data.length cq)):=⟨_,1,rfl,rfl,fun _=>⟨g5.size,0,rfl,fun i hi=>by
   rw[Zh x6,Yh,Nat.zero_add];exact List.getElem?_eq_getElem hi⟩⟩
  have O6:=(O2.Zd K5 (fun q=>q)).Zd k6 (fun q=>q);rw[f3]at O6;have stp:∀v7 o7 (g7:Hp),YG o7 (.log 100) 58 5 g7 v7 (ys.length+1) (Zz Jv ys++To X.k X.n X.a X.b (.slice q X.data.length cq))→Kp (fun u=>u=.log 100) o2 g6 o7 g7 →
    Kp (fun t=>t=.log 100) SI h o7 g7∧Yq (ys++[(X,.slice q X.data.length cq)])=(SL gs cr (j+1)).2∧YG o7 (.log 100) 58 5 g7 v7 (ys++[(X,Value.slice q X.data.length cq)]).length (Zz Jv (ys++[(X,.slice q X.data.length cq)]))∧(∀y∈ys++[(X,Value.slice q X.data.length cq)],VC o7 g7 y.2 y.1.data)∧∀y∈ys++[(X,Value.slice q X.data.length cq)],∀b,ZO y.2=some b→h.size≤b:=fun v7 o7 g7 O7 k7=>by
   refine⟨((K2.trans (ZF K5)).trans (ZF k6)).trans k7,?_,?_,fun y hy=>?_,fun y hy=>?_⟩
   ·rw[eN,←hr];unfold Yq;simp only[List.map_append,List.map_cons,List.map_nil]
   ·have e:Zz Jv (ys++[(X,.slice q X.data.length cq)])=Zz Jv ys++To X.k X.n X.a X.b (.slice q X.data.length cq):=by rw[Yj,Ur];rfl
    rw[e,List.length_append];exact O7
   ·rcases List.mem_append.1 hy with hy|hy
    ·exact (((I2 y hy).Zd K5).Zd k6).Zd k7
    ·rw[List.mem_singleton.1 hy];exact (i5.Zd k6).Zd k7
   ·rcases List.mem_append.1 hy with hy|hy
    ·exact N2 y hy
    ·rw[List.mem_singleton.1 hy];exact n5
  unfold To at e4 r5 e6;rcases Iw with⟨q1,e54⟩|⟨⟨q1,q6⟩,e54⟩|⟨⟨q1,q6⟩,w5⟩
  case' inl=>subst e54
  case' inl=>simp -implicitDefEqProofs only[go_sem,↓reduceIte,e4,rk,q1,r5,l5,e6,f3]
  case' inr.inl=>subst e54
  case' inr.inl=>have q1t:=eq_true q1
  case' inr.inl=>simp -implicitDefEqProofs only[go_sem,↓reduceIte,e4,rk,q1t,f8,q6,r5,l5,e6,f3]
  case' inr.inr=>have q1t:=eq_true q1
  case' inr.inr=>simp -implicitDefEqProofs only[go_sem,↓reduceIte,e4,rk,q1t,f8,q6,w5,l4,r5,l5,e6,f3]
  all_goals
   refine Jf (E:=58) (n:=5) (bytes:=56) (k:=1) nM Tryz.underlying31 Zbe Zbg rfl Zbf O6 k6.ZX src rfl (by omega) (by omega) ?_;intro v7 o7 g7 O7 k7 _;have k7:Kp (fun u=>u=.log 100) o2 g6 o7 g7:=k7;obtain⟨z1,z2,z3,z4,z5⟩:=stp v7 o7 g7 O7 k7;simp -implicitDefEqProofs only[go_sem,↓reduceIte,f9];unfold Yt;refine⟨⟨⟨f0,f1,f2⟩,j+1,o7,ys++[(X,Value.slice q X.data.length cq)],ZD,Zq8,rfl,?_,z1,z2,?_,z4,z5⟩,?_⟩
   ·rw[eN]
    first
    | (rw[if_pos q1];rfl)
    | (rw[if_neg q1];exact f8)
   ·exact z3
   ·simp only[vi,Zi,↓reduceIte,f9];omega
 have e9:scr gs Xx cr=(SL gs cr j).2:=by
  unfold scr;by_cases q:j<gs.length
  ·rw[show Xx=j by omega]
  ·rw[show j=gs.length by omega,C0 gs cr Xx (by omega)]
 have fin:∀b,ZO (F2 7)=some b→h.size≤b∧b<g2.size:=fun b hb=>by
  have ho:=rR O2 hb;refine⟨CY K2 ho,?_⟩;refine Classical.byContradiction fun q=>?_;rw[K2.ZX b (by omega)]at ho;cases ho
 by_cases Nw:j<gs.length
 ·have ZL:(j:Int)<gs.length:=by omega
  have YJ:¬(j:Int)<Xx:=by omega
  simp -implicitDefEqProofs only[go_sem,↓reduceIte,f0,f1,f9,ZL,YJ];exact⟨PH K2,by rw[f3];exact hc3,ys,by rw[hr,e9],⟨O2.sl⟩,(fun y hy=>⟨⟨(I2 y hy).1.sl,(I2 y hy).1.fits,fun b hb=>⟨((I2 y hy).1.free b hb).1,rfl⟩⟩,(I2 y hy).2⟩),N2,fin⟩
 ·have ZL:¬(j:Int)<gs.length:=by omega
  simp -implicitDefEqProofs only[go_sem,↓reduceIte,f0,f1,f9,ZL];exact⟨PH K2,by rw[f3];exact hc3,ys,by rw[hr,e9],⟨O2.sl⟩,(fun y hy=>⟨⟨(I2 y hy).1.sl,(I2 y hy).1.fits,fun b hb=>⟨((I2 y hy).1.free b hb).1,rfl⟩⟩,(I2 y hy).2⟩),N2,fin⟩
theorem j6 (T:World) (h:Hp) (v:Value) (gs:List Gr) (Xx:Nat) (cr:Bool) (hv:Ts Gr.C 5 h v gs) (hg:∀g∈gs,g.ok) (hm:Xx≤1000000) (tk:Tk h) :
  Zc Tryz.prog T 7 #[v,.int .i64 Xx,.bool cr] h fun v' h'=>Zf h.size h h'∧VR v'∧∃ys,Yq ys=scr gs Xx cr∧Ts Jv 5 h' v' ys∧∀y∈ys,VC SI h' y.2 y.1.data:=
 (cD T h v gs Xx cr hv hg hm tk).mono fun _ _ ⟨q1,q2,ys,q3,q4,q5,_,_⟩=>⟨q1,q2,ys,q3,q4,q5⟩
def cE (l:List Raw):Wd:=OT (l.map Raw.ac)
theorem rX {h:Hp} {v:Value} {l:List (Raw × Value)} (s:Ts Jv 5 h v l):∃p c,v=.slice p l.length c:=by
 obtain⟨p,c,h,_⟩:=GN s;exact⟨p,c,h⟩
theorem fF {α β:Type} {R:α→β→Prop} {l:List α} {k:List β} (h:Dm R l k):l.length=k.length:=by
 induction h with
 | nil=>rfl
 | cons _ _ ih=>rw[List.length_cons,List.length_cons,ih]
set_option maxHeartbeats 4000000 in
theorem ZcV (T:World) (h:Hp) (v:Value) (xs:List (Raw × Value)) (hv:Ts Jv 5 h v xs) (hx:∀x∈xs,VC SI h x.2 x.1.data) (tb:BA SI h) (FQ:xs.length≤4611686018427387904) (hz:VI (Yq xs)=0) :
  Zc Tryz.prog T 5 #[v] h fun v' h'=>(∃lv tv vs,v'=.tuple #[.agg (bZ (cE (Yq xs)) lv tv).toArray,.bool true]∧UK (h.size+1) h' (bZ (cE (Yq xs)) lv tv) (cE (Yq xs)) lv tv vs)∧Zf h.size h h':=by
 obtain⟨p,c,lF⟩:=rX hv;subst lF;refine Zc.Zk (args:=[_]) Tryz.func5 rfl rfl rfl rfl ?_;obtain⟨h0,XR⟩:=Zx (h.push (.cells lJ.toArray 28):Hp);have e0:=XR.symm;have b0:Zf h.size h h0:=by rw[XR];exact (Zf.refl _ _).add _
 have z0:h0[h.size]? = some (.cells lJ.toArray 28):=by rw[XR];exact Zb
 have k0:Kp QM SI h SI h0:=ZE (N0 h) b0;unfold lJ at e0;simp -implicitDefEqProofs only[go_sem,↓reduceIte,e0];refine (yv T h0 _ xs (hv.Z2 b0) (fun x hxm=>(hx x hxm).Zd k0) (tb.Zd k0) FQ).use ?_;rintro v1 h1 ⟨b1,r1⟩;have B1:=b0.trans (b1.mono b0.size);unfold GM at r1;rw[if_pos hz]at r1;obtain⟨R,lv,tv,vs,rfl,rf⟩:=r1;have ra:=rf.at;obtain⟨pl,cl,hl,_⟩:=ra.ZhB.open (n:=1) (enc:=fun v=>[v]) (fun _=>rfl) (show (1:Nat)≠0 by decide);have vl:vs.length=5:=fF ra.each;subst hl;rw[vl]at *;have rc:=ra.cells;subst rc;obtain⟨R,hR⟩:=Zx (bZ (cE (Yq xs)) (.slice pl 5 cl) tv);have hR':bZ (OT (List.map Raw.ac (Yq xs))) (.slice pl 5 cl) tv=R:=by rw[hR];rfl
 rw[hR'];rw[hR']at ra rf;obtain⟨pt,ct,ht,_⟩:=ra.told.open (n:=5) (enc:=Il) (fun _=>rfl) (show (5:Nat)≠0 by decide);have tX:R.length=13:=by rw[hR];rfl
 have lG:R.all Z7=true:=by rw[hR,ht];rfl
 have hRp:Yw [Value.int .i64 0,.bool false,.bool false,.bool false,.bool false,.bool false,.slice none 0 0,.int .i64 0,.int .i64 0,.int .i64 0,.int .i64 0,.int .i64 0,.slice none 0 0] 0 R=R:=ZJ (by rw[tX];rfl);have yw:R.length≤13:=by omega
 have hR6:nth R 6=some (.slice pl 5 cl):=by rw[hR];rfl
 obtain⟨h2,Uz⟩:=Zx (h1.push (.cells R.toArray 28):Hp);have e2:=Uz.symm;have b2:Zf h1.size h1 h2:=by rw[Uz];exact (Zf.refl _ _).add _
 have y2:h2[h1.size]? = some (.cells R.toArray 28):=by rw[Uz];exact Zb
 have z2:=b2.get (Za (b1.get (Za z0) z0)) (b1.get (Za z0) z0);have lz:=Za z2;have ly:=Za y2;have r2:rd h2 ⟨h1.size,0,none⟩ 13=some R:=Zq y2 tX;have r6:hc h2 ⟨h1.size,6,none⟩=some (.slice pl 5 cl):=by rw[Zh y2];exact hR6
 have w2:wr h2 ⟨h.size,0,none⟩ R=some (h2.setIfInBounds h.size (.cells R.toArray 28)):=by
  rw[ZU z2 0 _,if_pos ⟨by rw[tX];decide,lG⟩];have:Yw lJ 0 R=R:=ZJ (by rw[tX];rfl);rw[this]
 have z3:=Zy (o:=.cells R.toArray 28) z2;have r3:=Zq z3 tX;simp -implicitDefEqProofs only[go_sem,↓reduceIte,tX,lG,hRp,yw,e2];refine VS.z (h.size) [0,5,9] (.p 1 (.p 2 (.p 3 (.p 4 (.or 0 (.or 5 (.p 6 (.p 7 (.p 8 (.w 9 (.p 10 .nil))))) (.s 9 (.w 5 (.p 6 (.p 7 (.p 8 (.p 10 .nil))))))) (.s 5 (.p 6 (.p 7 (.p 8 (.w 0 (.w 9 (.p 10 .nil)))))))))))) mixed (by kernel_rfl) ?_;have s0:h0.size=h.size+1:=by rw[XR];simp
 have YA:¬h1.size=h.size:=by have:=b1.size;omega
 have e5:decide (((5:Nat):Int)=5)=true:=rfl;have et:R.take 13=R:=List.take_of_length_le (by omega);have bs:Zf h.size h (h2.setIfInBounds h.size (.cells R.toArray 28)):=(B1.trans (b2.mono B1.size)).Zm (Nat.le_refl _) _;have rf2:UK (h.size+1) (h2.setIfInBounds h.size (.cells R.toArray 28)) R (OT (List.map Raw.ac (Yq xs))) (.slice pl 5 cl) tv vs:=by
  rw[s0]at rf;exact (rf.Z2 b2).set (by omega) _
 have key:(∃lv tv vs,Value.tuple #[.agg R.toArray,.bool true]=.tuple #[.agg (bZ (cE (Yq xs)) lv tv).toArray,.bool true]∧UK (h.size+1) (h2.setIfInBounds h.size (.cells R.toArray 28)) (bZ (cE (Yq xs)) lv tv) (cE (Yq xs)) lv tv vs)∧Zf h.size h (h2.setIfInBounds h.size (.cells R.toArray 28)):=
  ⟨⟨_,tv,vs,by rw[←hR],by rw[←hR];exact rf2⟩,bs⟩
 simp -implicitDefEqProofs only[go_sem,↓reduceIte,r2,r6,w2,tX,lG,yw,ly,lz,YA,hR6,e5,et];exact⟨⟨key,key⟩,key⟩
end Go.Proofs.YtboeoomhjbcecaaGreatDoor
