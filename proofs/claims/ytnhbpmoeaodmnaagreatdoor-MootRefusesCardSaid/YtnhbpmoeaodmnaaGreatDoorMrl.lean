/- The pieces of an act: setting a node, what a tape's records make, all letters come. -/
import Derived.Test.YtnhbpmoeaodmnaaGreatDoorMdg
import Derived.Test.YtnhbpmoeaodmnaaGreatDoorLchks
import Derived.Test.YtnhbpmoeaodmnaaGreatDoorTab
import Derived.LaidSub
namespace Go.Proofs.YtnhbpmoeaodmnaaGreatDoor
open Go Go.V
set_option linter.unusedSimpArgs false
set_option linter.unusedVariables false
set_option maxRecDepth 100000
theorem rec_go {l:List Nat} {a r:Acp} {k j:Nat} (h:Rec l a k r j):∀ f,l.length+1≤k+f→recGo l f a k=(r,j):=by
 induction h with
 | stop e=>
  intro f hf
  cases f with
  | zero=>rfl
  | succ f=>unfold recGo; rw [e]
 | @go a a' r k k' j e _ ih=>
  intro f hf
  have e':=e
  unfold recStep at e'
  split at e'
  ·rename_i q
   rw [Option.map_eq_some_iff] at e'
   obtain ⟨x,_,hx⟩:=e'
   have hk:k'=k+(recN l k+4):=(congrArg Prod.snd hx).symm
   cases f with
   | zero=>omega
   | succ f=>
    unfold recGo
    rw [e]
    exact ih f (by omega)
  ·cases e'
theorem rec_all {l:List Nat} {r:Acp} {k:Nat} (h:Rec l acp0 0 r k):recAll l=(r,k):=rec_go h _ (by omega)
theorem nodes_set {o:Ow} {h:Hp} {wb:Nat} {nbs:Nat→Nat} {WA0:WA} {fl:List Ltr} {bad:Nat→Int} {told:List Tld} (d:Dom o h) (W:WorldAt o h wb nbs WA0 fl bad told) (i nb:Nat) (hi:i<5) :
  ∃ b off c g,WA0.nodes=.slice (some ⟨b,off,none⟩) 5 c∧wr1 h ⟨b,off+i,none⟩ (ptrV nb)=some g∧Kp (fun t=>t=.nodes) o h o g∧WorldAt o g wb (fun j=>if j=i then nb else nbs j) WA0 fl bad told:=by
 rcases hw:W.nodes with ⟨_,e,_⟩ | ⟨b,off,cap,pre,spare,g1,g2,g3,g4,g5,g6,g7⟩
 ·cases e
 have hw':wr1 h ⟨b,off+i,none⟩ (ptrV nb)=some (h.setIfInBounds b (.cells (pre++([ptrV (nbs 0),ptrV (nbs 1),ptrV (nbs 2),ptrV (nbs 3),ptrV (nbs 4)].set i (ptrV nb)++spare)).toArray 56)):=by
  rw [wr1_get g3,if_pos ⟨by simp only [List.length_append,List.length_cons]; omega,rfl⟩]
  rw [← g4,List.set_append_right _ _ (by omega),Nat.add_sub_cancel_left,List.set_append_left _ _ (by simpa using hi)]
 have kk:Kp (fun t=>t=.nodes) o h o (h.setIfInBounds b (.cells (pre++([ptrV (nbs 0),ptrV (nbs 1),ptrV (nbs 2),ptrV (nbs 3),ptrV (nbs 4)].set i (ptrV nb)++spare)).toArray 56)):=(Kp.refl d (fun t=>t=.nodes)).set g1 rfl _
 refine ⟨b,off,cap,_,g2,hw',kk,W.blk.keep kk (by intro e; cases e),?_,W.flying.keep kk (by intro e; cases e),W.told.keep kk (by intro e; cases e)⟩
 refine .inr ⟨b,off,cap,pre,spare,g1,g2,?_,g4,rfl,g6,g7⟩
 rw [get_set g3]
 match i,hi with
 | 0,_=>rfl
 | 1,_=>rfl
 | 2,_=>rfl
 | 3,_=>rfl
 | 4,_=>rfl
def acC (k n a b:Int) (d:Value):List Value:=[.int .i64 k,.int .i64 n,.int .i64 a,.int .i64 b,d]
structure WOk (w:Wd):Prop where
 me:∀ i,i<5→(w.nodes i).me=i
 step:∀ i,i<5→StepOk (w.nodes i) w.flying.length w.told.length
 queue:∀ i,i<5→(w.nodes i).queue.length≤100000000000
 log:∀ i,i<5→(w.nodes i).log.length≤100000000000
 waiting:∀ i,i<5→(w.nodes i).waiting.length≤100000000000
 inbox:∀ i,i<5→(w.nodes i).inbox.length≤100000000000
 data:∀ i,i<5→(w.nodes i).data.length≤1000000
 told:w.told.length≤100000000000
 bad:∀ i,i<5→0≤w.bad i∧w.bad i≤1000000000000
 ball:∀ i,i<5→(w.nodes i).own.p.r≤1000000000000∧(w.nodes i).heard.r≤1000000000000 ∧ -1000000000000≤(w.nodes i).own.p.r ∧ -1000000000000≤(w.nodes i).heard.r
 rgn:∀ i,i<5→∀ r,(w.nodes i).reign=some r→r.b.r≤1000000000000 ∧ -1000000000000≤r.b.r
 to:∀ l∈w.flying,0≤l.to∧l.to<5
 room:w.flying.length≤100000000000
theorem AllAt.fresh {o o':Ow} {h h':Hp} {wb:Nat} {nbs:Nat→Nat} {WA0:WA} {w:Wd} {i nb:Nat} {a:NA} {n:Nd} (A:AllAt o h wb nbs WA0 w) (k:Kp (fun t=>t=.nodes∨t.of=some i) o h o' h')
  (N:NodeAt o' h' wb i nb a n) (W:WorldAt o' h' wb (fun j=>if j=i then nb else nbs j) WA0 w.flying w.bad w.told):AllAt o' h' wb (fun j=>if j=i then nb else nbs j) WA0 (w.set i n):=by
 refine ⟨W,fun j hj=>?_⟩
 by_cases e:j=i
 ·subst e
  refine ⟨a,?_⟩
  unfold Wd.set
  simpa using N
 ·obtain ⟨b,M⟩:=A.nd j hj
  refine ⟨b,?_⟩
  unfold Wd.set
  simp only [if_neg e]
  refine M.keep k fun t q hq=>?_
  rcases q with rfl | q
  ·cases hq
  ·rw [hq] at q; exact e (Option.some.inj q)
theorem set_self (w:Wd) (i:Nat):w.set i (w.nodes i)=w:=by
 unfold Wd.set
 have:(fun j=>if j=i then w.nodes i else w.nodes j)=w.nodes:=by
  funext j; split
  ·next e=>rw [e]
  ·rfl
 rw [this]
theorem crashed_im {o:Ow} {h':Hp} {p:Option Addr} {c:Nat} {L:List Nat} (d:Dom o h') (hb:Bs h' (.slice p L.length c) L) (hc:L.length≤c) (hf:∀ b,blkOf (.slice p L.length c)=some b→o b=none∧b<h'.size):ImB o h' (.slice p L.length c) L:=
 ⟨⟨hb.sl,⟨p,c,rfl,hc⟩,fun b q=>⟨(hf b q).2,(hf b q).1⟩⟩,hb.byte⟩
theorem crashed_set {o:Ow} {h:Hp} {v:Value} {l:List Nat} {k:Nat} (d:Dom o h) (s:ImB o h v l) (hk:k<h.size) (hv:∀ b,blkOf v=some b→b≠k) (x:Obj):ImB o (h.setIfInBounds k x) v l:=by
 have d2:Dom (updT o k Tg.nodes) h:=fun b hb=>by rw [updT_ne (by omega)]; exact d b hb
 have s2:ImB (updT o k Tg.nodes) h v l:=⟨⟨s.1.sl,s.1.fits,fun b hb=>⟨(s.1.free b hb).1,by rw [updT_ne (hv b hb)]; exact (s.1.free b hb).2⟩⟩,s.2⟩
 have k2:Kp (fun t=>t=Tg.nodes) (updT o k Tg.nodes) h (updT o k Tg.nodes) (h.setIfInBounds k x):=(Kp.refl d2 (fun t=>t=Tg.nodes)).set updT_same rfl x
 have s3:=s2.keep k2
 exact ⟨⟨s3.1.sl,s3.1.fits,fun b hb=>⟨(s3.1.free b hb).1,(s.1.free b hb).2⟩⟩,s3.2⟩
theorem crashed_eq (i:Nat) (n:Nd) (k:Int) (L:List Nat) (Z E:Int) (hu:n.up=true) (h:crashRes n.data n.syn k=(L,Z,E)):crashed i n k = { blank i true L Z acp0 with up:=false }:=by
 unfold crashed
 rw [if_pos hu]
 unfold crashRes at h
 by_cases c:tapeOk n.data n.syn
 ·rw [if_pos (show n.data.length≤100000∧0≤n.syn∧n.syn≤n.data.length from c)] at h
  by_cases q:k<0
  ·rw [if_pos q] at h
   cases h
   rw [if_neg (fun e=>by have:=e.2; omega)]; rfl
  ·rw [if_neg q] at h
   cases h
   rw [if_pos ⟨c,by omega⟩]; rfl
 ·rw [if_neg (show ¬ (n.data.length≤100000∧0≤n.syn∧n.syn≤n.data.length) from c)] at h
  cases h
  rw [if_neg (fun e=>c e.1)]; rfl
theorem come_inbox (w:Wd) (l:Ltr) (i:Nat):((come w l).nodes i).inbox.length≤(w.nodes i).inbox.length+1:=by
 unfold come
 split
 ·unfold Wd.set
  simp only
  split
  ·next e=>subst e; simp
  ·omega
 ·omega
theorem comes_inbox (i:Nat):∀ (ls:List Ltr) (w:Wd),((ls.foldl come w).nodes i).inbox.length≤(w.nodes i).inbox.length+ls.length:=by
 intro ls
 induction ls with
 | nil=>intro w; simp
 | cons l ls ih=>
  intro w
  have h1:=ih (come w l)
  have h2:=come_inbox w l i
  simp only [List.foldl_cons,List.length_cons]
  omega
def VtsI (l:List Vt):Prop:=(∀ x∈l,voteMay x)∧l.Pairwise (fun a b=>a.slot<b.slot)
structure AcI (a:Acp):Prop where
 bal:ballotMay a.p∨(a.p.r=0∧a.p.n=0)
 vts:VtsI a.l
def BalI (b:Bal):Prop:=0≤b.r∧b.r≤65536
theorem rising_len:∀ (l:List Vt) (a:Int),l.Pairwise (fun a b=>a.slot<b.slot)→(∀ x∈l,a≤x.slot∧x.slot≤39)→a≤40→(l.length:Int)≤40 - a:=by
 intro l
 induction l with
 | nil=>intro a _ _ h; simp; omega
 | cons x l ih=>
  intro a hp hx ha
  rw [List.pairwise_cons] at hp
  have h1:=hx x (by simp)
  have:=ih (x.slot+1) hp.2 (fun y hy=>⟨by have:=hp.1 y hy; omega,(hx y (by simp [hy])).2⟩) (by omega)
  simp only [List.length_cons]
  omega
theorem VtsI.len {l:List Vt} (h:VtsI l):l.length≤40:=by
 have:=rising_len l 0 h.2 (fun x hx=>⟨(h.1 x hx).1.1,(h.1 x hx).1.2⟩) (by omega)
 omega
theorem VtsI.nil:VtsI []:=⟨fun x hx=>by (cases hx),.nil⟩
theorem VtsI.ins {l:List Vt} (h:VtsI l) {v:Vt} (hv:voteMay v):VtsI (insV l v):=by
 unfold insV
 refine ⟨fun x hx=>?_,?_⟩
 ·rcases List.mem_append.1 hx with hx | hx
  ·exact h.1 x (List.mem_filter.1 hx).1
  ·rcases List.mem_cons.1 hx with rfl | hx
   ·exact hv
   ·exact h.1 x (List.mem_filter.1 hx).1
 ·rw [List.pairwise_append,List.pairwise_cons]
  refine ⟨h.2.sublist List.filter_sublist,⟨fun y hy=>by simpa using (List.mem_filter.1 hy).2,h.2.sublist List.filter_sublist⟩,fun x hx y hy=>?_⟩
  have h1:x.slot<v.slot:=by simpa using (List.mem_filter.1 hx).2
  rcases List.mem_cons.1 hy with rfl | hy
  ·exact h1
  ·have h2:v.slot<y.slot:=by simpa using (List.mem_filter.1 hy).2
   omega
theorem AcI.zero:AcI acp0:=⟨.inr ⟨rfl,rfl⟩,VtsI.nil⟩
theorem ballotMay.I {b:Bal} (h:ballotMay b):BalI b:=⟨by have:=h.1.1; omega,h.1.2⟩
theorem AcI.balI {a:Acp} (h:AcI a):BalI a.p:=by
 rcases h.bal with q | q
 ·exact q.I
 ·unfold BalI; omega
structure LtrI (C:List Cm) (l:Ltr):Prop where
 kind:0≤l.kind∧l.kind≤7
 frm:0≤l.frm∧l.frm<5
 to:0≤l.to∧l.to<5
 b:BalI l.b
 slot:0≤l.v.slot∧l.v.slot<40
 vs:VtsI l.vs
 cmd:l.kind=4→l.v.cm∈C
def KeyI {β:Type} (m:Int) (l:List (Int × β)):Prop:=(l.map (·.1)).Nodup∧∀ x∈l.map (·.1),0≤x∧x<m
theorem KeyI.nil {β:Type} (m:Int):KeyI m ([]:List (Int × β)):=⟨by simp,fun x hx=>by (cases hx)⟩
theorem KeyI.ins {β:Type} {m:Int} {l:List (Int × β)} (h:KeyI m l) {k:Int} (hk:0≤k∧k<m) (v:β):KeyI m (ins l k v):=by
 obtain ⟨h1,h2⟩:=ins_keys (k:=k) (v:=v) h.1
 refine ⟨h1,fun x hx=>?_⟩
 rcases h2 x hx with rfl | q
 ·exact hk
 ·exact h.2 x q
theorem nodup_few:∀ (m:Nat) (l:List Int),l.Nodup→(∀ x∈l,0≤x∧x<(m:Int))→l.length≤m:=by
 intro m
 induction m with
 | zero=>
  intro l _ h
  cases l with
  | nil=>simp
  | cons x l=>have:=h x (by simp); omega
 | succ m ih=>
  intro l hn h
  have h1:=ih (l.erase (m:Int)) (hn.erase _) (fun x hx=>by
   have hx':=(List.Nodup.mem_erase_iff hn).1 hx
   have:=h x hx'.2
   have:x≠(m:Int):=hx'.1
   omega)
  have:l.length≤(l.erase (m:Int)).length+1:=by rw [List.length_erase]; split <;> omega
  omega
theorem KeyI.len {β:Type} {m:Nat} {l:List (Int × β)} (h:KeyI (m:Int) l):l.length≤m:=by
 have:=nodup_few m _ h.1 h.2
 simpa using this
structure RgnI (r:Rgn):Prop where
 b:BalI r.b
 prom:KeyI 5 r.prom
 vs:∀ x∈r.prom,VtsI x.2
 sets:∀ x∈r.vts,KeyI 5 x.2
def PndI:Pnd→Prop
 | .pro a to b vs=>AcI a∧(0≤to∧to<5)∧BalI b∧VtsI vs
 | .vot a to v=>AcI a∧(0≤to∧to<5)∧voteMay v
 | .own a vs _=>AcI a∧VtsI vs
structure NdI (C:List Cm) (i:Nat) (n:Nd):Prop where
 me:n.me=i
 turn:0≤n.turn∧n.turn<5
 own:AcI n.own
 heard:BalI n.heard
 pend:∀ p,n.pend=some p→PndI p
 reign:∀ r,n.reign=some r→RgnI r
 known:KeyI 40 n.known
 log:∀ j,j<n.log.length→(lkp n.known (j:Int)).isSome=true
 queue:n.queue.Nodup∧∀ x∈n.queue,x∈C
 data:n.data.length≤100000
theorem NdI.logLen {C:List Cm} {i:Nat} {n:Nd} (h:NdI C i n):n.log.length≤40:=by
 have h1:=keys_run n.known 0 n.log.length (fun j hj=>by simpa using h.log j hj)
 have h2:=h.known.len (m:=40)
 omega
theorem prErr_may {p:Bal} {l:List Vt} {b:Bal} (h:prErr p l b=0):ballotMay b:=by
 unfold prErr at h
 by_cases c1:accErr p l≠0
 ·rw [if_pos c1] at h; cases h
 ·rw [if_neg c1] at h
  by_cases c2:¬ ballotMay b
  ·rw [if_pos c2] at h; cases h
  ·simpa using c2
theorem acErr_may {p:Bal} {l:List Vt} {x:Vt} (h:acErr p l x=0):voteMay x:=by
 unfold acErr at h
 by_cases c1:accErr p l≠0
 ·rw [if_pos c1] at h; cases h
 ·rw [if_neg c1] at h
  by_cases c2:¬ voteMay x
  ·rw [if_pos c2] at h; cases h
  ·simpa using c2
theorem wrt_fits {l:List Nat} {n:Int} {k:Nat} (h:wrtErr l n k=0):l.length+(k+5)≤100000:=by
 unfold wrtErr at h
 by_cases c1:¬ tapeOk l n
 ·rw [if_pos c1] at h; cases h
 ·rw [if_neg c1] at h
  by_cases c2:100000<l.length+(k+5)
  ·rw [if_pos c2] at h; cases h
  ·omega
theorem pro_fits {l:List Nat} {n:Int} {b:Bal} (h:proErr l n b=0):l.length+14≤100000:=by
 unfold proErr at h
 by_cases c1:¬ tapeOk l n
 ·rw [if_pos c1] at h; cases h
 ·rw [if_neg c1] at h
  by_cases c2:¬ ballotMay b
  ·rw [if_pos c2] at h; cases h
  ·rw [if_neg c2] at h; exact wrt_fits h
theorem vot_fits {l:List Nat} {n:Int} {x:Vt} (h:votErr l n x=0):l.length+38≤100000:=by
 unfold votErr at h
 by_cases c1:¬ tapeOk l n
 ·rw [if_pos c1] at h; cases h
 ·rw [if_neg c1] at h
  by_cases c2:¬ voteMay x
  ·rw [if_pos c2] at h; cases h
  ·rw [if_neg c2] at h; exact wrt_fits h
theorem pro_len (b:Bal):(frmS (proB b)).length=14:=by rw [frmS_length]; rfl
theorem vot_len (x:Vt):(frmS (votB x)).length=38:=by rw [frmS_length]; rfl
structure OutI (C:List Cm) (i:Nat) (n:Nd) (o:Out):Prop where
 nd:NdI C i o.n
 ls:∀ l∈o.ls,LtrI C l
 few:o.ls.length≤1
 ts:o.ts.length+o.n.waiting.length≤n.waiting.length
theorem OutI.same {C:List Cm} {i:Nat} {n:Nd} (h:NdI C i n):OutI C i n ⟨n,[],[]⟩:=⟨h,(fun l hl=>by cases hl),by simp,by simp⟩
theorem OutI.one {C:List Cm} {i:Nat} {n:Nd} (h:NdI C i n) {l:Ltr} (hl:LtrI C l):OutI C i n ⟨n,[l],[]⟩:=⟨h,fun x hx=>by
 have:x=l:=by simpa using hx
 rw [this]; exact hl,by simp,by simp⟩
theorem prepared_I {C:List Cm} {i:Nat} {n:Nd} {l:Ltr} (hi:i<5) (h:NdI C i n) (hl:LtrI C l):OutI C i n (prepared n l):=by
 have me5:0≤(n.me:Int)∧(n.me:Int)<5:=by rw [h.me]; omega
 have v0:0≤vt0.slot∧vt0.slot<40:=by decide
 unfold prepared
 by_cases c1:prErr n.own.p n.own.l l.b≠0
 ·rw [if_pos c1]
  exact OutI.one h ⟨by simp,me5,hl.frm,h.own.balI,v0,VtsI.nil,fun e=>by cases e⟩
 rw [if_neg c1]
 have hb:ballotMay l.b:=prErr_may (by simpa using c1)
 by_cases c2:n.own.p=l.b
 ·rw [if_pos c2]
  exact OutI.one h ⟨by simp,me5,hl.frm,hl.b,v0,h.own.vts,fun e=>by cases e⟩
 rw [if_neg c2]
 by_cases c3:proErr n.data n.syn l.b≠0
 ·rw [if_pos c3]; exact OutI.same h
 rw [if_neg c3]
 have hd:=pro_fits (by simpa using c3)
 refine ⟨{ h with pend:=?_,data:=?_ },(fun x hx=>by cases hx),by simp,by simp⟩
 ·intro p hp
  obtain rfl:=Option.some.inj hp
  exact ⟨⟨.inl hb,h.own.vts⟩,hl.frm,hb.I,h.own.vts⟩
 ·show (n.data++frmS (proB l.b)).length≤100000
  rw [List.length_append,pro_len]; exact hd
theorem asked_I {C:List Cm} {i:Nat} {n:Nd} {l:Ltr} (hi:i<5) (h:NdI C i n) (hl:LtrI C l):OutI C i n (asked n l):=by
 have me5:0≤(n.me:Int)∧(n.me:Int)<5:=by rw [h.me]; omega
 have v0:0≤vt0.slot∧vt0.slot<40:=by decide
 unfold asked
 by_cases c1:acErr n.own.p n.own.l l.v≠0
 ·rw [if_pos c1]
  exact OutI.one h ⟨by simp,me5,hl.frm,h.own.balI,v0,VtsI.nil,fun e=>by cases e⟩
 rw [if_neg c1]
 have hv:voteMay l.v:=acErr_may (by simpa using c1)
 by_cases c2:l.v∈n.own.l
 ·rw [if_pos c2]
  exact OutI.one h ⟨by simp,me5,hl.frm,by unfold BalI bal0; simp,hl.slot,VtsI.nil,fun e=>by cases e⟩
 rw [if_neg c2]
 by_cases c3:votErr n.data n.syn l.v≠0
 ·rw [if_pos c3]; exact OutI.same h
 rw [if_neg c3]
 have hd:=vot_fits (by simpa using c3)
 refine ⟨{ h with pend:=?_,data:=?_ },(fun x hx=>by cases hx),by simp,by simp⟩
 ·intro p hp
  obtain rfl:=Option.some.inj hp
  exact ⟨⟨.inl hv.2.1,h.own.vts.ins hv⟩,hl.frm,hv⟩
 ·show (n.data++frmS (votB l.v)).length≤100000
  rw [List.length_append,vot_len]; exact hd
theorem learnN_I {C:List Cm} {i:Nat} {n:Nd} {x:Cm} (h:NdI C i n) (hx:lkp n.known (n.log.length:Int)=some x):NdI C i (learnN n x)∧(learnT n x).length+(learnN n x).waiting.length≤n.waiting.length:=by
 refine ⟨{ h with log:=?_,queue:=?_ },?_⟩
 ·intro j hj
  have hj':j<(n.log++[x]).length:=hj
  show (lkp n.known (j:Int)).isSome=true
  rw [List.length_append,List.length_singleton] at hj'
  by_cases e:j<n.log.length
  ·exact h.log j e
  ·have:j=n.log.length:=by omega
   subst this
   rw [hx]; rfl
 ·exact ⟨h.queue.1.sublist List.filter_sublist,fun y hy=>h.queue.2 y (List.mem_filter.1 hy).1⟩
 ·show (learnT n x).length+(n.waiting.erase x).length≤n.waiting.length
  unfold learnT
  by_cases c:x∈n.waiting
  ·rw [if_pos c,List.length_erase_of_mem c]
   have:=List.length_pos_of_mem c
   simp; omega
  ·rw [if_neg c,List.erase_of_not_mem c]; simp
theorem learnGo_I {C:List Cm} {i:Nat}:∀ (k:Nat) (n:Nd),NdI C i n→NdI C i (learnGo k n).1∧(learnGo k n).2.length+(learnGo k n).1.waiting.length≤n.waiting.length:=by
 intro k
 induction k with
 | zero=>intro n h; exact ⟨h,by simp [learnGo]⟩
 | succ k ih=>
  intro n h
  unfold learnGo
  cases hx:lkp n.known (n.log.length:Int) with
  | none=>exact ⟨h,by simp⟩
  | some x=>
   obtain ⟨h1,h2⟩:=learnN_I h hx
   obtain ⟨h3,h4⟩:=ih _ h1
   refine ⟨h3,?_⟩
   simp only [List.length_append]
   omega
theorem learn_I {C:List Cm} {i:Nat} {n:Nd} (h:NdI C i n) (s:Int) (x:Cm) (hs:0≤s∧s<40):OutI C i n (learn n s x):=by
 have h1:NdI C i (learnK n s x):={ h with
  known:=h.known.ins hs x
  log:=fun j hj=>by
   show (lkp (ins n.known s x) (j:Int)).isSome=true
   rw [lkp_ins]
   split
   ·rfl
   ·exact h.log j hj }
 obtain ⟨h2,h3⟩:=learnGo_I ((learnK n s x).known.length+1) (learnK n s x) h1
 exact ⟨h2,(fun l hl=>by cases hl),by simp [learn],h3⟩
theorem ins_vals {β:Type}:∀ {l:List (Int × β)} {k:Int} {v:β} {x:Int × β},x∈ins l k v→x.2=v∨x∈l:=by
 intro l
 induction l with
 | nil=>
  intro k v x hx
  left
  have:x=(k,v):=by simpa [ins] using hx
  rw [this]
 | cons y l ih=>
  intro k v x hx
  obtain ⟨a,b⟩:=y
  unfold ins at hx
  split at hx
  ·rcases List.mem_cons.1 hx with rfl | hx
   ·exact .inl rfl
   ·exact .inr (by simp [hx])
  ·rcases List.mem_cons.1 hx with rfl | hx
   ·exact .inr (by simp)
   ·rcases ih hx with q | q
    ·exact .inl q
    ·exact .inr (by simp [q])
theorem gathered_I {C:List Cm} {i:Nat} {n:Nd} {l:Ltr} (hi:i<5) (h:NdI C i n) (hl:LtrI C l):OutI C i n (gathered n l):=by
 unfold gathered
 cases hr:n.reign with
 | none=>exact OutI.same h
 | some r=>
  have R:=h.reign r hr
  have hs:∀ r',(gotV n r l).reign=some r'→RgnI r':=by
   intro r' hr'
   obtain rfl:=Option.some.inj hr'
   refine ⟨R.b,R.prom,R.vs,fun x hx=>?_⟩
   rcases ins_vals hx with q | q
   ·rw [q]
    unfold gotS
    refine KeyI.ins ?_ hl.frm ()
    cases hk:lkp r.vts l.v.slot with
    | none=>exact KeyI.nil 5
    | some s=>exact R.sets _ (lkp_mem hk)
   ·exact R.sets x q
  have hv:NdI C i (gotV n r l):={ h with reign:=hs }
  simp only
  split
  ·split
   ·refine ⟨{ h with reign:=fun r' hr'=>?_ },(fun x hx=>by cases hx),by simp,by simp [gotP]⟩
    obtain rfl:=Option.some.inj hr'
    refine ⟨R.b,R.prom.ins hl.frm l.vs,fun x hx=>?_,R.sets⟩
    rcases ins_vals hx with q | q
    ·rw [q]; exact hl.vs
    ·exact R.vs x q
   ·exact OutI.same h
  ·split
   ·exact OutI.same h
   ·split
    ·have:=learn_I hv l.v.slot l.v.cm hl.slot
     exact ⟨this.nd,this.ls,this.few,this.ts⟩
    ·exact ⟨hv,(fun x hx=>by cases hx),by simp,by simp [gotV]⟩
theorem add_I {C:List Cm} {i:Nat} {n:Nd} {x:Cm} (h:NdI C i n) (hx:x∈C):NdI C i (add n x):=by
 unfold add
 split
 ·exact h
 ·rename_i q
  refine { h with queue:=⟨?_,fun y hy=>?_⟩ }
  ·show (n.queue++[x]).Nodup
   rw [List.nodup_append]
   refine ⟨h.queue.1,by simp,fun a ha b hb e=>?_⟩
   have:b=x:=by simpa using hb
   exact q (.inl (by rw [← this,← e]; exact ha))
  ·have hy:y∈n.queue++[x]:=hy
   rcases List.mem_append.1 hy with hy | hy
   ·exact h.queue.2 y hy
   ·have:y=x:=by simpa using hy
    rw [this]; exact hx
theorem notes_I {C:List Cm} {i:Nat} {n:Nd} {l:Ltr} (h:NdI C i n) (hl:LtrI C l):NdI C i (notes n l):=by
 unfold notes
 split
 ·exact { h with heard:=hl.b }
 ·exact h
theorem tells_I {C:List Cm} {i:Nat} {n:Nd} {l:Ltr} (hi:i<5) (h:NdI C i n) (hl:LtrI C l):OutI C i n (tells n l):=by
 have me5:0≤(n.me:Int)∧(n.me:Int)<5:=by rw [h.me]; omega
 have hn:=notes_I h hl
 have hw:(notes n l).waiting=n.waiting:=by unfold notes; split <;> rfl
 unfold tells
 split
 ·next y _=>
  refine ⟨hn,fun x hx=>?_,by simp,by simp [hw]⟩
  have:x=⟨6,n.me,l.frm,bal0,vtOf l.v.slot bal0 y,[]⟩:=by simpa using hx
  rw [this]
  exact ⟨by simp,me5,hl.frm,by unfold BalI bal0; simp,hl.slot,VtsI.nil,fun e=>by cases e⟩
 ·exact ⟨hn,(fun x hx=>by cases hx),by simp,by simp [hw]⟩
theorem handle_I {C:List Cm} {i:Nat} {n:Nd} {l:Ltr} (hi:i<5) (h:NdI C i n) (hl:LtrI C l):OutI C i n (handle n l):=by
 have hw:(notes n l).waiting=n.waiting:=by unfold notes; split <;> rfl
 unfold handle
 split
 ·exact prepared_I hi h hl
 split
 ·exact gathered_I hi h hl
 split
 ·exact asked_I hi h hl
 split
 ·rename_i e
  refine ⟨add_I h (hl.cmd e),(fun x hx=>by cases hx),by simp,?_⟩
  have:(add n l.v.cm).waiting=n.waiting:=by unfold add; split <;> rfl
  simp [this]
 split
 ·exact tells_I hi h hl
 split
 ·exact learn_I h _ _ hl.slot
 ·exact ⟨notes_I h hl,(fun x hx=>by cases hx),by simp,by simp [hw]⟩
theorem NdI.inbox {C:List Cm} {i:Nat} {n:Nd} (h:NdI C i n) (k:List Ltr):NdI C i { n with inbox:=k }:={ h with }
theorem drain_I {C:List Cm} {i:Nat} (hi:i<5):∀ (k:List Ltr) (n:Nd),NdI C i n→(∀ l∈k,LtrI C l) →
  NdI C i (drain n k).n∧(∀ l∈(drain n k).ls,LtrI C l)∧(∀ l∈(drain n k).n.inbox,LtrI C l)∧(drain n k).ls.length+(drain n k).n.inbox.length≤k.length∧(drain n k).ts.length+(drain n k).n.waiting.length≤n.waiting.length:=by
 intro k
 induction k with
 | nil=>
  intro n h _
  unfold drain
  exact ⟨h.inbox [],(fun x hx=>by cases hx),(fun x hx=>by cases hx),by simp,by simp⟩
 | cons l k ih=>
  intro n h hk
  unfold drain
  split
  ·exact ⟨h.inbox _,(fun x hx=>by cases hx),hk,by simp,by simp⟩
  ·have o:=handle_I hi (h.inbox k) (hk l (by simp))
   obtain ⟨h1,h2,h3,h4,h5⟩:=ih _ o.nd (fun x hx=>hk x (by simp [hx]))
   have ots:=o.ts
   have of:=o.few
   refine ⟨h1,fun x hx=>?_,h3,?_,?_⟩
   ·rcases List.mem_append.1 hx with hx | hx
    ·exact o.ls x hx
    ·exact h2 x hx
   ·simp only [List.length_append,List.length_cons]; omega
   ·simp only [List.length_append]
    have:({ n with inbox:=k }:Nd).waiting=n.waiting:=rfl
    rw [this] at ots
    omega
theorem nodup_sub:∀ {l C:List Cm},l.Nodup→(∀ x∈l,x∈C)→l.length≤C.length:=by
 intro l
 induction l with
 | nil=>intro C _ _; simp
 | cons x l ih=>
  intro C hn hs
  rw [List.nodup_cons] at hn
  have hx:=hs x (by simp)
  have h1:=ih (C:=C.erase x) hn.2 (fun y hy=>by
   have hne:y≠x:=fun e=>hn.1 (by rw [← e]; exact hy)
   exact (List.mem_erase_of_ne hne).2 (hs y (by simp [hy])))
  rw [List.length_erase_of_mem hx] at h1
  have:=List.length_pos_of_mem hx
  simp only [List.length_cons]
  omega
theorem NdI.hand {C:List Cm} {i:Nat} {n:Nd} {l:Ltr} (h:NdI C i n) (hl:LtrI C l) (hC:C.length≤100000) (hw:n.waiting.length≤100000) {f t:Nat} (hf:f≤100000000000) (ht:t≤1000000):HandOk n l f t:=by
 have hlog:=h.logLen
 have hkn:=h.known.len (m:=40)
 have hq:n.queue.length≤C.length:=nodup_sub h.queue.1 h.queue.2
 refine ⟨hl.kind,by omega,by have:=h.own.vts.len; omega,by have:=h.data; omega,by omega,by omega,by omega,by omega,by omega,fun r s hr=>?_⟩
 cases hk:lkp r.vts s with
 | none=>simp
 | some x=>
  have:=(h.reign r hr).sets _ (lkp_mem hk)
  have:x.length≤5:=this.len (m:=5)
  simp only [Option.getD_some]
  omega
theorem NdI.dut {C:List Cm} {i:Nat} {n:Nd} (h:NdI C i n) (hC:C.length≤100000) {f:Nat} (hf:f≤100000000000):DutyOk n f:=by
 have hlog:=h.logLen
 have hq:n.queue.length≤C.length:=nodup_sub h.queue.1 h.queue.2
 refine ⟨by omega,by have:=h.own.vts.len; omega,by have:=h.data; omega,fun r hr=>?_,by omega,by omega,h.turn⟩
 have R:=h.reign r hr
 have hp:r.prom.length≤5:=R.prom.len (m:=5)
 refine ⟨fun x hx=>by have:=(R.vs x hx).len; omega,fun x hx v hv=>?_,by omega⟩
 have:=((R.vs x hx).1 v hv).1.2
 omega
theorem drain_ok {C:List Cm} {i:Nat} (hi:i<5) (hC:C.length≤100000):∀ (k:List Ltr) (n:Nd),NdI C i n→(∀ l∈k,LtrI C l)→n.waiting.length≤100000→∀ f t,f+k.length≤100000000000→t+n.waiting.length≤1000000→DrainOk n k f t:=by
 intro k
 induction k with
 | nil=>intro n _ _ _ f t _ _; exact trivial
 | cons l k ih=>
  intro n h hk hw f t hf ht
  simp only [List.length_cons] at hf
  unfold DrainOk
  by_cases hp:n.pend.isSome=true
  ·exact .inl hp
  ·have o:=handle_I hi (h.inbox k) (hk l (by simp))
   have ots:=o.ts
   have of:=o.few
   have:({ n with inbox:=k }:Nd).waiting=n.waiting:=rfl
   rw [this] at ots
   exact .inr ⟨(h.inbox k).hand (hk l (by simp)) hC hw (by omega) (by omega),ih _ o.nd (fun x hx=>hk x (by simp [hx])) (by omega) _ _ (by omega) (by omega)⟩
theorem step_ok' {C:List Cm} {i:Nat} {n:Nd} (hi:i<5) (hC:C.length≤100000) (h:NdI C i n) (hk:∀ l∈n.inbox,LtrI C l) (hw:n.waiting.length≤100000) {f t:Nat} (hf:f+n.inbox.length≤100000000000) (ht:t+n.waiting.length≤1000000):StepOk n f t:=by
 obtain ⟨h1,h2,h3,h4,h5⟩:=drain_I hi n.inbox n h hk
 exact ⟨by have:=h.data; omega,by omega,fun _=>drain_ok hi hC n.inbox n h hk hw f t hf ht,fun _ _=>h1.dut hC (by omega)⟩
theorem prop1_I {n:Nd} {r:Rgn} {x:Cm} (R:RgnI r):RgnI (prop1 n r x):=by
 unfold prop1
 split
 ·exact ⟨R.b,R.prom,R.vs,R.sets⟩
 ·exact R
theorem propAll_I {n:Nd}:∀ (l:List Cm) (r:Rgn),RgnI r→RgnI (propAll n r l):=by
 intro l
 induction l with
 | nil=>intro r R; exact R
 | cons x l ih=>intro r R; exact ih _ (prop1_I R)
theorem ruleR_I {n:Nd} {r:Rgn} (R:RgnI r):RgnI (ruleR n r):=by
 unfold ruleR
 refine propAll_I _ _ ?_
 split
 ·exact R
 ·exact ⟨R.b,R.prom,R.vs,R.sets⟩
theorem bal0_I:BalI bal0:=by unfold BalI bal0; simp
theorem rule_I {C:List Cm} {i:Nat} {n:Nd} {r:Rgn} (hi:i<5) (h:NdI C i n) (R:RgnI r):NdI C i (rule n r).n∧(∀ l∈(rule n r).ls,LtrI C l)∧(rule n r).n.inbox=n.inbox∧(rule n r).n.waiting=n.waiting:=by
 have me5:0≤(n.me:Int)∧(n.me:Int)<5:=by rw [h.me]; omega
 have v0:0≤vt0.slot∧vt0.slot<40:=by decide
 unfold rule
 split
 ·split
  ·exact ⟨h,(fun x hx=>by cases hx),rfl,rfl⟩
  ·rename_i hd
   have hd:=pro_fits (by simpa using hd)
   refine ⟨{ h with pend:=?_,data:=?_ },(fun x hx=>by cases hx),rfl,rfl⟩
   ·intro p hp
    obtain rfl:=Option.some.inj hp
    by_cases c:prErr n.own.p n.own.l r.b=0
    ·simp only [c,if_true]
     exact ⟨⟨.inl (prErr_may c),h.own.vts⟩,h.own.vts⟩
    ·simp only [c,if_false]
     exact ⟨AcI.zero,VtsI.nil⟩
   ·show (n.data++frmS (proB r.b)).length≤100000
    rw [List.length_append,pro_len]; exact hd
 ·split
  ·refine ⟨h,fun l hl=>?_,rfl,rfl⟩
   unfold prepLs at hl
   simp only [List.mem_flatMap,List.mem_range] at hl
   obtain ⟨m,hm,hl⟩:=hl
   split at hl
   ·have:l=⟨0,n.me,m,r.b,vt0,[]⟩:=by simpa using hl
    rw [this]
    exact ⟨by simp,me5,by simp only; omega,R.b,v0,VtsI.nil,fun e=>by cases e⟩
   ·cases hl
  ·refine ⟨{ h with reign:=fun r' hr'=>?_ },fun l hl=>?_,rfl,rfl⟩
   ·obtain rfl:=Option.some.inj hr'
    exact ruleR_I R
   ·unfold accLs at hl
    simp only [List.mem_flatMap,List.mem_range] at hl
    obtain ⟨s,hs,hl⟩:=hl
    unfold accS at hl
    split at hl
    ·split at hl
     ·simp only [List.mem_flatMap,List.mem_range] at hl
      obtain ⟨m,hm,hl⟩:=hl
      unfold accL at hl
      split at hl
      ·next x _ _ _=>
       have:l=⟨2,n.me,m,bal0,vtOf s (ruleR n r).b x,[]⟩:=by simpa using hl
       rw [this]
       exact ⟨by simp,me5,by simp only; omega,bal0_I,by simp only [vtOf]; omega,VtsI.nil,fun e=>by cases e⟩
      ·cases hl
     ·cases hl
    ·cases hl
theorem still_I {C:List Cm} {i:Nat} {n:Nd} (h:NdI C i n):NdI C i (still n)∧(still n).inbox=n.inbox∧(still n).waiting=n.waiting:=by
 unfold still
 split
 ·split
  ·exact ⟨{ h with reign:=fun r hr=>by cases hr },rfl,rfl⟩
  ·exact ⟨h,rfl,rfl⟩
 ·exact ⟨h,rfl,rfl⟩
theorem duty1_I {C:List Cm} {i:Nat} {n:Nd} (hi:i<5) (h:NdI C i n):NdI C i (duty1 n).n∧(∀ l∈(duty1 n).ls,LtrI C l)∧(duty1 n).n.inbox=n.inbox∧(duty1 n).n.waiting=n.waiting:=by
 have me5:0≤(n.me:Int)∧(n.me:Int)<5:=by rw [h.me]; omega
 unfold duty1
 split
 ·next r hr=>exact rule_I hi h (h.reign r hr)
 ·split
  ·rename_i q
   refine ⟨h,fun l hl=>?_,rfl,rfl⟩
   unfold fwdLs at hl
   simp only [List.mem_map] at hl
   obtain ⟨x,hx,rfl⟩:=hl
   have hb:ballotMay n.own.p:=by
    rcases h.own.bal with e | e
    ·exact e
    ·have:=q.1; omega
   exact ⟨by simp,me5,by simp only; have:=hb.2; omega,bal0_I,by simp [vtOf],VtsI.nil,fun _=>h.queue.2 x hx⟩
  ·exact ⟨h,(fun x hx=>by cases hx),rfl,rfl⟩
theorem bestB_I {C:List Cm} {i:Nat} {n:Nd} (h:NdI C i n):BalI (bestB n):=by
 unfold bestB; split
 ·exact h.heard
 ·exact h.own.balI
theorem duty_I {C:List Cm} {i:Nat} {n:Nd} (hi:i<5) (hC:C.length≤100000) (h:NdI C i n):NdI C i (duty n).n∧(∀ l∈(duty n).ls,LtrI C l)∧(duty n).n.inbox=n.inbox∧(duty n).n.waiting=n.waiting∧(duty n).ls.length≤100201∧(duty n).ts=[]:=by
 obtain ⟨s1,s2,s3⟩:=still_I h
 obtain ⟨d1,d2,d3,d4⟩:=duty1_I hi s1
 have hq:(still n).queue.length≤C.length:=nodup_sub s1.queue.1 s1.queue.2
 have hls:=duty1_ls (still n)
 unfold duty
 split
 ·exact ⟨d1,d2,by rw [d3,s2],by rw [d4,s3],by omega,(duty1_same _).2.2.2.2.2⟩
 ·have tt:0≤((duty1 (still n)).n.turn+1) % 5∧((duty1 (still n)).n.turn+1) % 5<5:=by omega
  have t1:NdI C i (turned (duty1 (still n)).n):={ d1 with turn:=tt }
  have me5:0≤((turned (duty1 (still n)).n).me:Int)∧((turned (duty1 (still n)).n).me:Int)<5:=by rw [t1.me]; omega
  refine ⟨t1,fun l hl=>?_,by show (duty1 (still n)).n.inbox=_; rw [d3,s2],by show (duty1 (still n)).n.waiting=_; rw [d4,s3],?_,rfl⟩
  ·rcases List.mem_append.1 hl with hl | hl
   ·exact d2 l hl
   ·unfold needLs at hl
    split at hl
    ·rename_i q
     have:l=⟨5,(turned (duty1 (still n)).n).me,(turned (duty1 (still n)).n).turn,bestB (turned (duty1 (still n)).n),vtOf (turned (duty1 (still n)).n).log.length bal0 cm0,[]⟩:=by simpa using hl
     rw [this]
     exact ⟨by simp,me5,t1.turn,bestB_I t1,by simp only [vtOf]; have:=q.2; omega,VtsI.nil,fun e=>by cases e⟩
    ·cases hl
  ·have:(needLs (turned (duty1 (still n)).n)).length≤1:=by unfold needLs; split <;> simp
   simp only [List.length_append]
   omega
theorem synced_I {C:List Cm} {i:Nat} {n:Nd} (h:NdI C i n):NdI C i (synced n):=by
 refine { h with pend:=(fun p hp=>by cases hp),data:=?_ }
 show (if tapeOk n.data n.syn then n.data else []).length≤100000
 split
 ·exact h.data
 ·simp
theorem finish_I {C:List Cm} {i:Nat} {n:Nd} {p:Pnd} (hi:i<5) (h:NdI C i n) (P:PndI p):NdI C i (finish n p).n∧(∀ l∈(finish n p).ls,LtrI C l)∧(finish n p).n.inbox=n.inbox∧(finish n p).n.waiting=n.waiting∧(finish n p).ls.length≤1∧(finish n p).ts=[]:=by
 have me5:0≤(n.me:Int)∧(n.me:Int)<5:=by rw [h.me]; omega
 have v0:0≤vt0.slot∧vt0.slot<40:=by decide
 cases p with
 | pro a to b vs=>
  obtain ⟨p1,p2,p3,p4⟩:=P
  refine ⟨{ h with own:=p1 },fun l hl=>?_,rfl,rfl,by simp [finish],rfl⟩
  have:l=⟨1,n.me,to,b,vt0,vs⟩:=by simpa [finish] using hl
  rw [this]
  exact ⟨by simp,me5,p2,p3,v0,p4,fun e=>by cases e⟩
 | vot a to v=>
  obtain ⟨p1,p2,p3⟩:=P
  refine ⟨{ h with own:=p1 },fun l hl=>?_,rfl,rfl,by simp [finish],rfl⟩
  have:l=⟨3,n.me,to,bal0,v,[]⟩:=by simpa [finish] using hl
  rw [this]
  exact ⟨by simp,me5,p2,bal0_I,by have:=p3.1; simp only; omega,VtsI.nil,fun e=>by cases e⟩
 | own a vs cur=>
  obtain ⟨p1,p2⟩:=P
  refine ⟨{ h with own:=p1,reign:=fun r hr=>?_ },(fun x hx=>by cases hx),rfl,rfl,by simp [finish],rfl⟩
  have hr:(if cur=true then n.reign.map (fun r=>{ r with prom:=ins r.prom n.me vs }) else n.reign)=some r:=hr
  split at hr
  ·rw [Option.map_eq_some_iff] at hr
   obtain ⟨r0,h0,rfl⟩:=hr
   have R:=h.reign r0 h0
   refine ⟨R.b,R.prom.ins me5 vs,fun x hx=>?_,R.sets⟩
   rcases ins_vals hx with q | q
   ·rw [q]; exact p2
   ·exact R.vs x q
  ·exact h.reign r hr
theorem step_I {C:List Cm} {i:Nat} {n:Nd} (hi:i<5) (hC:C.length≤100000) (h:NdI C i n) (hk:∀ l∈n.inbox,LtrI C l) :
  NdI C i (step n).n∧(∀ l∈(step n).ls,LtrI C l)∧(∀ l∈(step n).n.inbox,LtrI C l)∧(step n).ls.length+(step n).n.inbox.length≤n.inbox.length+100201∧(step n).ts.length+(step n).n.waiting.length≤n.waiting.length:=by
 unfold step
 split
 ·cases hp:n.pend with
  | some p=>
   obtain ⟨f1,f2,f3,f4,f5,f6⟩:=finish_I hi (synced_I h) (h.pend p hp)
   refine ⟨f1,f2,by simp only; rw [f3]; exact hk,?_,?_⟩
   ·simp only; rw [f3]; show _+n.inbox.length≤_; omega
   ·simp only; rw [f4,f6]; show 0+n.waiting.length≤_; omega
  | none=>
   obtain ⟨d1,d2,d3,d4,d5⟩:=drain_I hi n.inbox n h hk
   simp only
   split
   ·exact ⟨d1,d2,d3,by omega,d5⟩
   ·obtain ⟨e1,e2,e3,e4,e5,e6⟩:=duty_I hi hC d1
    refine ⟨e1,fun l hl=>?_,by simp only; rw [e3]; exact d3,?_,?_⟩
    ·rcases List.mem_append.1 hl with hl | hl
     ·exact d2 l hl
     ·exact e2 l hl
    ·simp only [List.length_append]; rw [e3]; omega
    ·simp only; rw [e4,e6,List.append_nil]; exact d5
 ·exact ⟨h,(fun x hx=>by cases hx),hk,by simp,by simp⟩
theorem body_I {a a':Acp} {b:List Nat} (h:bodyS a b=some a') (ha:AcI a):AcI a':=by
 unfold bodyS at h
 split at h
 ·split at h
  ·rename_i q
   cases h
   exact ⟨.inl (prErr_may q),ha.vts⟩
  ·cases h
 ·split at h
  ·split at h
   ·cases h
   ·split at h
    ·rename_i q
     cases h
     have hv:=acErr_may q
     exact ⟨.inl hv.2.1,ha.vts.ins hv⟩
    ·cases h
  ·cases h
theorem recGo_I (l:List Nat):∀ (f:Nat) (a:Acp) (k:Nat),AcI a→AcI (recGo l f a k).1:=by
 intro f
 induction f with
 | zero=>intro a k h; exact h
 | succ f ih=>
  intro a k h
  unfold recGo
  cases hs:recStep l a k with
  | none=>exact h
  | some x=>
   refine ih _ _ ?_
   unfold recStep at hs
   split at hs
   ·rw [Option.map_eq_some_iff] at hs
    obtain ⟨y,hy,rfl⟩:=hs
    exact body_I hy h
   ·cases hs
theorem recAll_I (l:List Nat):AcI (recAll l).1:=recGo_I l _ _ _ AcI.zero
theorem blank_I {C:List Cm} {i:Nat} {up:Bool} {data:List Nat} {syn:Int} {own:Acp} (hd:data.length≤100000) (ho:AcI own):NdI C i (blank i up data syn own):=
 ⟨rfl,by unfold blank; simp,ho,bal0_I,(fun p hp=>by cases hp),(fun r hr=>by cases hr),KeyI.nil 40,(fun j hj=>by cases hj),⟨by simp [blank],(fun x hx=>by cases hx)⟩,hd⟩
theorem crashed_I {C:List Cm} {i:Nat} {n:Nd} (h:NdI C i n) (keep:Int):NdI C i (crashed i n keep)∧((crashed i n keep).inbox=[]∧(crashed i n keep).waiting=[]∨crashed i n keep=n):=by
 unfold crashed
 split
 ·split
  ·refine ⟨blank_I ?_ AcI.zero,.inl ⟨rfl,rfl⟩⟩
   have:=h.data
   rw [List.length_take]; omega
  ·exact ⟨blank_I (by simp) AcI.zero,.inl ⟨rfl,rfl⟩⟩
 ·exact ⟨h,.inr rfl⟩
theorem started_I {C:List Cm} {i:Nat} {n:Nd} (h:NdI C i n):NdI C i (started i n)∧((started i n).inbox=[]∧(started i n).waiting=[]∨started i n=n):=by
 unfold started
 split
 ·exact ⟨h,.inr rfl⟩
 ·refine ⟨blank_I ?_ ?_,.inl ⟨rfl,rfl⟩⟩
  ·unfold repD
   have:=h.data
   split
   ·rw [List.length_take]; omega
   ·simp
  ·split
   ·exact recAll_I _
   ·exact AcI.zero
theorem lead_I {C:List Cm} {i:Nat} {n:Nd} (h:NdI C i n):NdI C i (lead n)∧(lead n).inbox=n.inbox∧(lead n).waiting=n.waiting:=by
 unfold lead
 split
 ·exact ⟨h,rfl,rfl⟩
 ·rename_i q
  refine ⟨{ h with pend:=?_,reign:=fun r hr=>?_ },rfl,rfl⟩
  ·intro p hp
   have hp:stale n.pend=some p:=hp
   cases hn:n.pend with
   | none=>rw [hn] at hp; cases hp
   | some p0=>
    have P:=h.pend p0 hn
    rw [hn] at hp
    cases p0 with
    | pro a to b vs=>cases hp; exact P
    | vot a to v=>cases hp; exact P
    | own a vs cur=>cases hp; exact P
  ·obtain rfl:=Option.some.inj hr
   refine ⟨⟨?_,?_⟩,KeyI.nil 5,(fun x hx=>by cases hx),(fun x hx=>by cases hx)⟩
   ·have h1:=h.own.balI.1
    show 0≤(leadB n).r
    unfold leadB
    simp only
    split <;> omega
   ·have:¬ 65536<(leadB n).r:=fun e=>q (.inr e)
    show (leadB n).r≤65536
    omega
def sum5 (f:Nat→Nat):Nat:=f 0+f 1+f 2+f 3+f 4
theorem sum5_set (f:Nat→Nat) (i a:Nat) (hi:i<5):sum5 (fun j=>if j=i then a else f j)+f i=sum5 f+a:=by
 unfold sum5
 match i,hi with
 | 0,_=>simp; omega
 | 1,_=>simp; omega
 | 2,_=>simp; omega
 | 3,_=>simp; omega
 | 4,_=>simp; omega
theorem sum5_le (f:Nat→Nat) (i:Nat) (hi:i<5):f i≤sum5 f:=by
 unfold sum5
 match i,hi with
 | 0,_=>omega
 | 1,_=>omega
 | 2,_=>omega
 | 3,_=>omega
 | 4,_=>omega
structure WI (C:List Cm) (k:Nat) (w:Wd):Prop where
 nd:∀ i,i<5→NdI C i (w.nodes i)
 inb:∀ i,i<5→∀ l∈(w.nodes i).inbox,LtrI C l
 fly:∀ l∈w.flying,LtrI C l
 room:w.flying.length+sum5 (fun i=>(w.nodes i).inbox.length)≤k*100300
 wait:w.told.length+sum5 (fun i=>(w.nodes i).waiting.length)≤k
 bad:∀ i,0≤w.bad i∧w.bad i≤k
theorem set_lens (w:Wd) (i:Nat) (n:Nd) (g:Nd→Nat) (hi:i<5):sum5 (fun j=>g (if j=i then n else w.nodes j))+g (w.nodes i)=sum5 (fun j=>g (w.nodes j))+g n:=by
 have:=sum5_set (fun j=>g (w.nodes j)) i (g n) hi
 have e:(fun j=>g (if j=i then n else w.nodes j))=(fun j=>if j=i then g n else g (w.nodes j)):=by
  funext j; split <;> rfl
 rw [e]; exact this
theorem WI.out {C:List Cm} {k:Nat} {w:Wd} (h:WI C k w) {i:Nat} (hi:i<5) {o:Out} (h1:NdI C i o.n) (h2:∀ l∈o.ls,LtrI C l) (h3:∀ l∈o.n.inbox,LtrI C l) (h4:o.ls.length+o.n.inbox.length≤(w.nodes i).inbox.length+100300) (h5:o.ts.length+o.n.waiting.length≤(w.nodes i).waiting.length+1):WI C (k+1) (w.out i o):=by
 unfold Wd.out
 refine ⟨fun j hj=>?_,fun j hj l hl=>?_,fun l hl=>?_,?_,?_,fun j=>by have:=h.bad j; simp only; omega⟩
 ·by_cases e:j=i
  ·subst e; simpa using h1
  ·simp only [if_neg e]; exact h.nd j hj
 ·by_cases e:j=i
  ·subst e; simp only [if_true] at hl; exact h3 l hl
  ·simp only [if_neg e] at hl; exact h.inb j hj l hl
 ·rcases List.mem_append.1 hl with hl | hl
  ·exact h.fly l hl
  ·exact h2 l hl
 ·have:=set_lens w i o.n (fun n=>n.inbox.length) hi
  have hr:=h.room
  simp only [List.length_append] at this ⊢
  omega
 ·have:=set_lens w i o.n (fun n=>n.waiting.length) hi
  have hr:=h.wait
  simp only [List.length_append] at this ⊢
  omega
theorem set_out (w:Wd) (i:Nat) (n:Nd):w.set i n=w.out i ⟨n,[],[]⟩:=by
 unfold Wd.set Wd.out
 simp
theorem WI.more {C:List Cm} {k:Nat} {w:Wd} (h:WI C k w):WI C (k+1) w:=
 ⟨h.nd,h.inb,h.fly,Nat.le_trans h.room (Nat.mul_le_mul_right _ (Nat.le_succ k)),Nat.le_trans h.wait (Nat.le_succ k),fun i=>⟨(h.bad i).1,by have:=(h.bad i).2; omega⟩⟩
theorem WI.ok {C:List Cm} {k:Nat} {w:Wd} (h:WI C k w) (hC:C.length≤100000) (hk:k≤100000):WOk w:=by
 have hr:=h.room
 have hw:=h.wait
 have hib:∀ i,i<5→(w.nodes i).inbox.length+w.flying.length≤10030000000:=fun i hi=>by
  have:(w.nodes i).inbox.length≤_:=sum5_le (fun i=>(w.nodes i).inbox.length) i hi
  omega
 have hwt:∀ i,i<5→(w.nodes i).waiting.length+w.told.length≤100000:=fun i hi=>by
  have:(w.nodes i).waiting.length≤_:=sum5_le (fun i=>(w.nodes i).waiting.length) i hi
  omega
 refine ⟨fun i hi=>(h.nd i hi).me,fun i hi=>step_ok' hi hC (h.nd i hi) (h.inb i hi) (by have:=hwt i hi; omega) (by have:=hib i hi; omega) (by have:=hwt i hi; omega),fun i hi=>?_,fun i hi=>?_,fun i hi=>?_,fun i hi=>?_,fun i hi=>?_,?_,fun i hi=>?_,fun i hi=>?_,fun i hi r hr=>?_,fun l hl=>(h.fly l hl).to,?_⟩
 ·have:=nodup_sub (h.nd i hi).queue.1 (h.nd i hi).queue.2; omega
 ·have:=(h.nd i hi).logLen; omega
 ·have:=hwt i hi; omega
 ·have:=hib i hi; omega
 ·have:=(h.nd i hi).data; omega
 ·have:=hwt 0 (by omega); omega
 ·have:=h.bad i; omega
 ·have h1:=(h.nd i hi).own.balI
  have h2:=(h.nd i hi).heard
  unfold BalI at h1 h2
  omega
 ·have h1:=((h.nd i hi).reign r hr).b
  unfold BalI at h1
  omega
 ·have:=hib 0 (by omega); omega
set_option maxHeartbeats 8000000 in
theorem wdo_ok (T:World) (h:Hp) (o:Ow) (wb:Nat) (nbs:Nat→Nat) (WA0:WA) (w:Wd) (a:Ac) (dv:Value) (d:Dom o h) (A:AllAt o h wb nbs WA0 w) (ok:WOk w) (hk:1≤a.kind∧a.kind≤9) (hi:a.node<5) (iv:ImB o h dv a.data) (hrl:a.data.length≤140737488355328) (tb:Tbs o h) :
  CallsH Tryz.prog T 15 #[ptrV wb,.agg (acC a.kind a.node a.at' a.keep dv).toArray] h fun v' h'=>∃ o' WA' nbs',Kp anyT o h o' h'∧AllAt o' h' wb nbs' WA' (act w a):=by
 obtain ⟨pd,cd,hdv,hcap⟩:=iv.1.fits
 have hcap':Cap dv:=by rw [hdv]; exact hcap
 subst hdv
 refine CallsH.of_code' (args:=[_,_]) Tryz.func15 rfl rfl rfl rfl ?_
 unfold ptrV acC
 obtain ⟨h1,hh1⟩:∃ h1:Hp,h1=h.push (.cells (acC a.kind a.node a.at' a.keep (.slice pd a.data.length cd)).toArray 46):=⟨_,rfl⟩
 have k1:Kp noT o h o h1:=by rw [hh1]; exact kp_push d _
 have x3:BoxAt o h1 h.size (.cells (acC a.kind a.node a.at' a.keep (.slice pd a.data.length cd)).toArray 46):=⟨d _ (Nat.le_refl _),by rw [hh1]; exact get_push_last⟩
 have e0:=hh1.symm
 unfold acC at e0
 have A1:=A.still k1
 have tb1:=tb.keep k1
 have R1:=world_rd A1.wd.blk.2
 have Rn:=R1.nodes
 obtain ⟨b,off,c,hn,hc5,hb,hrd⟩:=nodes_rd A1.wd
 rw [hn] at Rn
 have hwb:=lt_of_get A1.wd.blk.2
 have q0:hc h1 ⟨h.size,0,none⟩=some (.int .i64 a.kind):=hc_last x3.2
 have q1:hc h1 ⟨h.size,1,none⟩=some (.int .i64 a.node):=hc_last x3.2
 have q2:hc h1 ⟨h.size,2,none⟩=some (.int .i64 a.at'):=hc_last x3.2
 have q3:hc h1 ⟨h.size,3,none⟩=some (.int .i64 a.keep):=hc_last x3.2
 have q4:hc h1 ⟨h.size,4,none⟩=some (.slice pd a.data.length cd):=hc_last x3.2
 have l3:=lt_of_get x3.2
 have ri:=hrd a.node hi
 unfold ptrV at ri
 have hi5:(a.node:Int)<5:=by omega
 obtain ⟨na,N1⟩:=A1.nd a.node hi
 have hnb:=lt_of_get N1.blk.2
 have iv1:=iv.keep k1
 have hcase:a.kind=1∨a.kind=2∨a.kind=3∨(a.kind=4∨a.kind=5∨a.kind=6)∨a.kind=7∨a.kind=8∨a.kind=9:=by omega
 rcases hcase with e | e | e | e | e | e | e
 ·-- a command
  have ea:act w a=submit w a.node a.data:=by unfold act; rw [if_pos e]
  rw [ea]
  rw [e] at q0
  have cs:=submit_ok T h1 o wb nbs WA0 w a.node a.data (.slice pd a.data.length cd) k1.dom A1 hi (ok.me _ hi) iv1 hcap' hrl tb1 (by have:=ok.queue _ hi; omega) (by have:=ok.log _ hi; omega) (by have:=ok.waiting _ hi; omega) (by have:=ok.told; omega) (ok.bad _ hi)
  unfold ptrV at cs
  simp -implicitDefEqProofs (maxSteps:=2000000) only [go_sem,↓reduceIte,e0,q0]
  refine VS.z (h1.size) [11] (.p 0 (.p 1 (.p 2 (.p 3 (.q 4 (.p 5 (.q 6 (.p 7 (.q 8 (.p 9 (.q 10 (.w 11 .nil)))))))))))) mixed (by kernel_rfl) ?_
  simp -implicitDefEqProofs (maxSteps:=2000000) only [go_sem,↓reduceIte,Rn,q1,q4,hwb,l3,hb,hi5,ri]
  refine cs.use ?_
  rintro v' g ⟨o',WA',kk,A'⟩
  simp -implicitDefEqProofs (maxSteps:=2000000) only [go_sem,↓reduceIte]
  exact ⟨o',WA',nbs,(kp_all k1).trans kk,A'⟩
 ·-- to lead
  have ea:act w a=w.set a.node (lead (w.nodes a.node)):=by unfold act; rw [if_neg (by omega),if_pos e]
  rw [ea]
  rw [e] at q0
  have cs:=lead_ok T h1 o wb a.node (nbs a.node) na (w.nodes a.node) k1.dom N1 (ok.ball _ hi) (ok.rgn _ hi)
  unfold ptrV at cs
  simp -implicitDefEqProofs (maxSteps:=2000000) only [go_sem,↓reduceIte,e0,q0]
  refine VS.z (h1.size) [9] (.p 0 (.p 1 (.p 2 (.p 3 (.q 4 (.p 5 (.q 6 (.p 7 (.q 8 (.w 9 .nil)))))))))) mixed (by kernel_rfl) ?_
  simp -implicitDefEqProofs (maxSteps:=2000000) only [go_sem,↓reduceIte,Rn,q1,hwb,l3,hb,hi5,ri]
  refine cs.use ?_
  rintro v' g ⟨o',a',kk,N'⟩
  simp -implicitDefEqProofs (maxSteps:=2000000) only [go_sem,↓reduceIte]
  exact ⟨o',WA0,nbs,(kp_all k1).trans (kp_all kk),A1.turn (kk.mono fun t q=>.inr (.inr (.inr q))) N' (A1.wd.keep kk fun t q e=>by rw [q] at e; cases e)⟩
 ·-- a step
  have ea:act w a=w.out a.node (step (w.nodes a.node)):=by unfold act; rw [if_neg (by omega),if_neg (by omega),if_pos e]
  rw [ea]
  rw [e] at q0
  have cs:=nstep_ok T h1 o wb a.node (nbs a.node) nbs na (w.nodes a.node) WA0 w.flying w.bad w.told k1.dom N1 A1.wd tb1 (ok.step _ hi)
  unfold ptrV at cs
  simp -implicitDefEqProofs (maxSteps:=2000000) only [go_sem,↓reduceIte,e0,q0]
  refine VS.z (h1.size) [9] (.p 0 (.p 1 (.p 2 (.p 3 (.q 4 (.p 5 (.q 6 (.p 7 (.q 8 (.w 9 .nil)))))))))) mixed (by kernel_rfl) ?_
  simp -implicitDefEqProofs (maxSteps:=2000000) only [go_sem,↓reduceIte,Rn,q1,hwb,l3,hb,hi5,ri]
  refine cs.use ?_
  rintro v' g ⟨o',a',WA',kk,N',W'⟩
  simp -implicitDefEqProofs (maxSteps:=2000000) only [go_sem,↓reduceIte]
  exact ⟨o',WA',nbs,(kp_all k1).trans (kp_all kk),A1.turn kk N' W'⟩
 ·-- a letter
  have ea:act w a=pick w a.at' (decide (a.kind≠5)) (decide (a.kind=6)):=by unfold act; rw [if_neg (by omega),if_neg (by omega),if_neg (by omega),if_pos e]
  rw [ea]
  have cs:=wpick_ok T h1 o wb nbs WA0 w a.at' (decide (a.kind≠5)) (decide (a.kind=6)) k1.dom A1 ok.to (by have:=ok.room; omega) (fun j hj=>by have:=ok.inbox j hj; omega)
  unfold ptrV at cs
  rcases e with e | e | e
  all_goals
   rw [e] at q0 cs ⊢
   rw [e] at e0
   simp -implicitDefEqProofs (maxSteps:=2000000) only [go_sem,↓reduceIte,e0,q0,q2]
   refine cs.use ?_
   rintro v' g ⟨o',WA',kk,A'⟩
   simp -implicitDefEqProofs (maxSteps:=2000000) only [go_sem,↓reduceIte]
   exact ⟨o',WA',nbs,(kp_all k1).trans kk,A'⟩
 ·-- all letters
  have ea:act w a=w.flying.foldl come { w with flying:=[] }:=by unfold act; rw [if_neg (by omega),if_neg (by omega),if_neg (by omega),if_neg (by omega),if_pos e]
  rw [ea]
  rw [e] at q0
  have hroom:=ok.room
  obtain ⟨pf,cf,hf,hfc⟩:=lts_slice A1.wd.flying
  have Rf:=R1.flying
  rw [hf] at Rf
  obtain ⟨g2,w2,W2,k2⟩:=A1.wd.putFlying (fl':=[]) (v:=.slice none 0 0) (Kp.refl k1.dom (fun t=>t=.flying)) ⟨[],rfl,OwnT.nil _ _ _ _ _,fun x hx=>by cases hx⟩ (R1.wflying (.slice none 0 0) rfl)
  have A2:AllAt o g2 wb nbs { WA0 with flying:=.slice none 0 0 } { w with flying:=[] }:=A1.flew k2 (by rintro t rfl; rfl) W2
  have L2:LtsAt o .flying g2 (.slice pf w.flying.length cf) w.flying:=by rw [← hf]; exact A1.wd.flying.keep k2 (by intro e; cases e)
  have K2:Kp anyT o h o g2:=(kp_all k1).trans (kp_all k2)
  simp -implicitDefEqProofs (maxSteps:=2000000) only [go_sem,↓reduceIte,e0,q0,Rf,hwb,w2]
  refine VS.loop' (fun F g=>F 0=.pointer (some ⟨wb,0,none⟩)∧F 118=.slice pf w.flying.length cf∧F 119=.int .i64 w.flying.length∧∃ (j:Nat) (o':Ow),j≤w.flying.length∧F 120=.int .i64 j∧Kp anyT o h o' g∧AllAt o' g wb nbs { WA0 with flying:=.slice none 0 0 } ((w.flying.take j).foldl come { w with flying:=[] })∧LtsAt o' .flying g (.slice pf w.flying.length cf) w.flying)
   (fun F _=>w.flying.length - (vi (F 120)).toNat) rfl ⟨rfl,rfl,rfl,0,o,Nat.zero_le _,rfl,K2,A2,L2⟩ ?_
  rintro F3 g3 ⟨f0,f118,f119,j,o3,hj,f120,K3,A3,L3⟩
  by_cases hlt:j<w.flying.length
  ·have hlt':(j:Int)<w.flying.length:=by omega
   obtain ⟨v,b3,off3,c3,hv,hvc,hb3,hrd3,iv3⟩:=lts_get L3 j hlt
   simp only [Value.slice.injEq] at hv
   obtain ⟨rfl,_,rfl⟩:=hv
   obtain ⟨l,hl⟩:∃ l,l=w.flying[j]:=⟨_,rfl⟩
   rw [← hl] at hrd3 iv3
   have hlm:l∈w.flying:=by rw [hl]; exact List.getElem_mem hlt
   obtain ⟨pw,cw,rfl⟩:=iv3.isSlice
   obtain ⟨g4,hg4⟩:∃ g4:Hp,g4=g3.push (.cells (ltC l (.slice pw l.vs.length cw)).toArray 98):=⟨_,rfl⟩
   have k4:Kp noT o3 g3 o3 g4:=by rw [hg4]; exact kp_push K3.dom _
   have x6:BoxAt o3 g4 g3.size (.cells (ltC l (.slice pw l.vs.length cw)).toArray 98):=⟨K3.dom _ (Nat.le_refl _),by rw [hg4]; exact get_push_last⟩
   have e4:=hg4.symm
   have r6:rd g4 ⟨g3.size,0,none⟩ 14=some (ltC l (.slice pw l.vs.length cw)):=rd_last x6.2 rfl
   obtain ⟨wj,hwj⟩:∃ wj,wj=(w.flying.take j).foldl come { w with flying:=[] }:=⟨_,rfl⟩
   rw [← hwj] at A3
   have hnext:(w.flying.take (j+1)).foldl come { w with flying:=[] } = come wj l:=by
    rw [take_snoc _ j hlt,← hl,List.foldl_append,← hwj]; rfl
   have cc:=come_ok T g4 o3 wb nbs _ wj l (.slice pw l.vs.length cw) k4.dom (A3.still k4) (iv3.keep k4) (ok.to l hlm) (fun i hi=>by
    have h1:=comes_inbox i (w.flying.take j) { w with flying:=[] }
    rw [← hwj,List.length_take] at h1
    have h2:=ok.inbox i hi
    have h3:=ok.room
    have h4:(({ w with flying:=[] }:Wd).nodes i).inbox.length=(w.nodes i).inbox.length:=rfl
    omega)
   unfold ptrV ltC at cc
   unfold ltC at e4 r6 hrd3
   simp -implicitDefEqProofs (maxSteps:=2000000) only [go_sem,↓reduceIte,f0,f118,f119,f120,hlt',hrd3,e4,r6]
   refine cc.use ?_
   rintro v' g5 ⟨o5,k5,A5⟩
   simp -implicitDefEqProofs (maxSteps:=2000000) only [go_sem,↓reduceIte,f120]
   unfold nLoop
   refine ⟨⟨f0,f118,f119,j+1,o5,hlt,rfl,(K3.trans (kp_all k4)).trans (kp_all k5),by rw [hnext]; exact A5,(L3.keep k4 (fun q=>q.elim)).keep k5 (by rintro ⟨_,e⟩; cases e)⟩,?_⟩
   simp only [vi,updo_some,↓reduceIte,f120]; omega
  ·have hge:¬ (j:Int)<w.flying.length:=by omega
   obtain rfl:j=w.flying.length:=by omega
   rw [List.take_of_length_le (Nat.le_refl _)] at A3
   simp -implicitDefEqProofs (maxSteps:=2000000) only [go_sem,↓reduceIte,f119,f120,hge]
   exact ⟨o3,_,nbs,K3,A3⟩
 ·-- a crash
  have ea:act w a=w.set a.node (crashed a.node (w.nodes a.node) a.keep):=by unfold act; rw [if_neg (by omega),if_neg (by omega),if_neg (by omega),if_neg (by omega),if_neg (by omega),if_pos e]
  rw [ea]
  rw [e] at q0
  obtain ⟨n,hn0⟩:∃ n,n=w.nodes a.node:=⟨_,rfl⟩
  have hdat:=ok.data _ hi
  rw [← hn0] at N1 hdat
  have P1:=node_rd N1.blk.2 N1.pt.store.len
  have P1u:=P1.up
  simp -implicitDefEqProofs (maxSteps:=2000000) only [go_sem,↓reduceIte,e0,q0]
  refine VS.mono (N:=fun F' g'=>Bel h1.size h1 g'∧F' 0=.pointer (some ⟨wb,0,none⟩)∧F' 3=.pointer (some ⟨h.size,0,none⟩)∧F' 7=.pointer (some ⟨nbs a.node,0,none⟩)) ?_ ?_ (fun _ _ _ h=>h) (fun _ _ h=>h)
  ·refine VS.z (h1.size) [] (.p 0 (.p 1 (.p 2 (.q 3 (.p 4 (.q 5 (.p 6 (.q 7 (.p 8 .nil))))))))) mixed (by kernel_rfl) ?_
   simp -implicitDefEqProofs (maxSteps:=2000000) only [go_sem,↓reduceIte,Rn,q1,hwb,l3,hb,hi5,ri]
   try exact Bel.refl _ _
  rintro F2 g2 ⟨b2,f0,f3,f7⟩
  have kb2:=kp_still k1.dom b2
  have A2:=A1.still kb2
  have N2:=N1.still kb2
  have K2:=k1.trans kb2
  have y3:=x3.keep kb2
  have P2:=node_rd N2.blk.2 N2.pt.store.len
  have P2u:=P2.up
  have hnb2:=lt_of_get N2.blk.2
  clear P1 P1u
  cases hu:n.up with
  | false=>
   rw [hu] at P2u
   have e1:crashed a.node (w.nodes a.node) a.keep=w.nodes a.node:=by unfold crashed; rw [← hn0,if_neg (by rw [hu]; simp)]
   rw [e1,set_self]
   simp -implicitDefEqProofs (maxSteps:=2000000) only [go_sem,↓reduceIte,f7,P2u]
   exact ⟨o,WA0,nbs,kp_all K2,A2⟩
  | true=>
   rw [hu] at P2u
   obtain ⟨pt,ct,hpt⟩:=N2.pt.data.1.isSlice
   have hpt:na.data=.slice pt n.data.length ct:=hpt
   have P2t:=P2.tape
   rw [hpt] at P2t
   have ND:=N2.pt.data
   rw [hpt] at ND
   obtain ⟨L,Z,E,hLZ⟩:∃ L Z E,crashRes n.data n.syn a.keep=(L,Z,E):=⟨_,_,_,rfl⟩
   have q3:hc g2 ⟨h.size,3,none⟩=some (.int .i64 a.keep):=hc_last y3.2
   have l3:=lt_of_get y3.2
   have call:∀ G,Bel g2.size g2 G→CallsH Tryz.prog T 28 #[.agg #[.slice pt n.data.length ct,.int .i64 n.syn],.int .i64 a.keep] G fun v' h'=>Bel G.size G h'∧Crashed G.size h' v' (L,Z,E):=fun G hG=>by
    rw [← hLZ]; exact crash_ok T G _ n.syn a.keep n.data (ND.bs.bel hG) (by omega)
   have wT:∀ (G:Hp) (k:Nat) (m:Int) (p:Option Addr) (L c:Nat),G[k]? = some (.cells [.slice none 0 0,.int .i64 0].toArray 58)→wr G ⟨k,0,none⟩ [.slice p L c,.int .i64 m]=some (G.setIfInBounds k (.cells [.slice p L c,.int .i64 m].toArray 58)):=fun G k m p L c hx=>by
    rw [wr_get hx 0 _]; rfl
   rw [crashed_eq a.node (w.nodes a.node) a.keep L Z E (by rw [← hn0]; exact hu) (by rw [← hn0]; exact hLZ)]
   simp -implicitDefEqProofs (maxSteps:=2000000) only [go_sem,↓reduceIte,f7,P2u]
   refine VS.mono (N:=fun F' g'=>F' 0=.pointer (some ⟨wb,0,none⟩)∧F' 3=.pointer (some ⟨h.size,0,none⟩)∧Bel g2.size g2 g'∧∃ kt p c,F' 8=.pointer (some ⟨kt,0,none⟩)∧g'[kt]? = some (.cells [.slice p L.length c,.int .i64 Z].toArray 58)∧ImB o g' (.slice p L.length c) L) ?_ ?_ (fun _ _ _ h=>h) (fun _ _ h=>h)
   ·refine VS.z (g2.size) [6,11] (.p 0 (.p 1 (.p 2 (.q 3 (.p 4 (.q 5 (.or 6 (.p 7 (.p 8 (.p 9 (.s 10 (.w 11 (.p 12 .nil)))))) (.s 10 (.w 6 (.p 7 (.p 8 (.p 9 (.w 11 (.p 12 .nil)))))))))))))) mixed (by kernel_rfl) ?_
    simp -implicitDefEqProofs (maxSteps:=2000000) only [go_sem,↓reduceIte,f0,f3,f7,P2t,q3,hnb2,l3]
    repeat' (first | with_reducible exact Bel.refl _ _ | with_reducible exact Bel.push (by omega) _ | with_reducible refine And.intro ?_ ?_)
    all_goals first
     | (refine (call g2 (Bel.refl _ _)).use ?_
        rintro _ g5 ⟨b5,p5,c5,L',Z',E',hz,rfl,bs,hcc,hbl⟩
        cases hz
        have s5:=b5.size
        have kk:=kp_still K2.dom b5
        have im:ImB o g5 (.slice p5 L.length c5) L:=crashed_im kk.dom bs hcc fun b hb=>⟨K2.dom b (hbl b hb).1,(hbl b hb).2⟩
        simp -implicitDefEqProofs (maxSteps:=2000000) only [go_sem,↓reduceIte,b5]
        exact ⟨f0,f3,_,_,_,rfl,get_push_last,im.keep (kp_push kk.dom _)⟩)
     | (refine (call (g2.push (.cells _ 58)) (Bel.push (Nat.le_refl _) _)).use ?_
        rintro _ g5 ⟨b5,p5,c5,L',Z',E',hz,rfl,bs,hcc,hbl⟩
        cases hz
        have B5:Bel g2.size g2 g5:=(Bel.push (Nat.le_refl _) _).trans (b5.mono (by simp))
        have xA:=b5.get (k:=g2.size) (by simp) get_push_last
        have wA5:=wT _ _ Z p5 L.length c5 xA
        have zA:=lt_of_get xA
        have kk:=kp_still K2.dom B5
        have im:ImB o g5 (.slice p5 L.length c5) L:=crashed_im kk.dom bs hcc fun b hb=>⟨K2.dom b (by have:=(hbl b hb).1; rw [Array.size_push] at this; omega),(hbl b hb).2⟩
        have ks:=crashed_set kk.dom im zA (fun b hb=>by have:=(hbl b hb).1; rw [Array.size_push] at this; omega) (.cells [.slice p5 L.length c5,.int .i64 Z].toArray 58)
        simp -implicitDefEqProofs (maxSteps:=2000000) only [go_sem,↓reduceIte,B5,wA5,zA]
        exact ⟨f0,f3,_,_,_,rfl,get_set xA,ks⟩)
   clear f0 f3 f7
   rintro F3 g3 ⟨f0,f3,b3,kt,p3,c3,f8,yt,im3⟩
   have kb3:=kp_still K2.dom b3
   have K3:=K2.trans kb3
   have A3:=A2.still kb3
   have z3:=y3.keep kb3
   obtain ⟨b,off,c,hn,hc5,hb,hrd⟩:=nodes_rd A3.wd
   have R3:=world_rd A3.wd.blk.2
   have Rn:=R3.nodes
   rw [hn] at Rn
   have hwb:=lt_of_get A3.wd.blk.2
   have q1:hc g3 ⟨h.size,1,none⟩=some (.int .i64 a.node):=hc_last z3.2
   have l3:=lt_of_get z3.2
   have rt:rd g3 ⟨kt,0,none⟩ 2=some [.slice p3 L.length c3,.int .i64 Z]:=rd_last yt rfl
   have lt:=lt_of_get yt
   have cb:CallsH Tryz.prog T 22 #[.int .i64 a.node,.agg #[.slice p3 L.length c3,.int .i64 Z],.agg #[.int .i64 0,.int .i64 0,.slice none 0 0]] g3 _:=blank_ok T g3 o wb a.node (.slice p3 L.length c3) L Z (.slice none 0 0) acp0 K3.dom im3 (Im.nil _ _ _ _)
   refine VS.z (g3.size) [12] (.p 0 (.p 1 (.p 2 (.q 3 (.p 4 (.q 5 (.p 6 (.q 7 (.q 8 (.p 9 (.s 10 (.p 11 (.w 12 .nil))))))))))))) mixed (by kernel_rfl) ?_
   simp -implicitDefEqProofs (maxSteps:=2000000) only [go_sem,↓reduceIte,f0,f3,f8,Rn,q1,rt,hwb,l3,lt,hb,hi5]
   refine cb.use ?_
   rintro _ g4 ⟨nb,o4,a4,rfl,b4,k4,N4⟩
   have W4:=A3.wd.keep k4 (by rintro t (rfl | rfl) <;> simp [Tg.of])
   obtain ⟨b',off',c',g5,hn',w5,k5,W5⟩:=nodes_set k4.dom W4 a.node nb hi
   rw [hn] at hn'
   simp only [Value.slice.injEq,Option.some.injEq,Addr.mk.injEq,true_and,and_true] at hn'
   obtain ⟨⟨rfl,rfl⟩,rfl⟩:=hn'
   have hb4:b<g4.size:=Nat.lt_of_lt_of_le hb b4.size
   have N5:=N4.keep k5 (by rintro t rfl e; cases e)
   have K5:Kp anyT o h o4 g5:=((kp_all K3).trans (kp_all k4)).trans (kp_all k5)
   have z5:=(z3.keep k4).keep k5
   unfold ptrV at w5 ⊢
   simp -implicitDefEqProofs (maxSteps:=2000000) only [go_sem,↓reduceIte,b4,w5,hb4,hi5]
   have R5:=world_rd W5.blk.2
   have R5n:=R5.nodes
   rw [hn] at R5n
   obtain ⟨b'',off'',c'',hn'',_,hb5,hrd5⟩:=nodes_rd W5
   rw [hn] at hn''
   simp only [Value.slice.injEq,Option.some.injEq,Addr.mk.injEq,true_and,and_true] at hn''
   obtain ⟨⟨rfl,rfl⟩,rfl⟩:=hn''
   have ri5:=hrd5 a.node hi
   simp only [↓reduceIte] at ri5
   unfold ptrV at ri5
   have hwb5:=lt_of_get W5.blk.2
   have q15:hc g5 ⟨h.size,1,none⟩=some (.int .i64 a.node):=hc_last z5.2
   have l35:=lt_of_get z5.2
   have hnb5:=lt_of_get N5.blk.2
   obtain ⟨g6,w6,N6,k6⟩:=NodePt.write (n:={ blank a.node true L Z acp0 with up:=false }) (a:=a4) { N5.pt with } K5.dom N5.blk ((node_wr N5.blk.2 N5.pt.store.len).up false)
   refine VS.z (g5.size) [10] (.p 0 (.p 1 (.p 2 (.q 3 (.p 4 (.q 5 (.p 6 (.q 7 (.p 8 (.p 9 (.w 10 .nil))))))))))) mixed (by kernel_rfl) ?_
   simp -implicitDefEqProofs (maxSteps:=2000000) only [go_sem,↓reduceIte,f0,f3,R5n,q15,hwb5,l35,hb5,hi5,ri5,hnb5,w6]
   have kk:Kp (fun t=>t=.nodes∨t.of=some a.node) o g3 o4 g6:=((k4.mono fun t q=>by rcases q with rfl | rfl <;> exact .inr rfl).trans (k5.mono fun t q=>.inl q)).trans (k6.mono fun t q=>.inr (by rw [q]; rfl))
   exact ⟨o4,WA0,_,K5.trans (kp_all k6),A3.fresh kk N6 (W5.keep k6 (by rintro t rfl; simp [Tg.of]))⟩
 ·-- a start
  have ea:act w a=w.set a.node (started a.node (w.nodes a.node)):=by unfold act; rw [if_neg (by omega),if_neg (by omega),if_neg (by omega),if_neg (by omega),if_neg (by omega),if_neg (by omega)]
  rw [ea]
  rw [e] at q0
  obtain ⟨n,hn0⟩:∃ n,n=w.nodes a.node:=⟨_,rfl⟩
  have hdat:=ok.data _ hi
  rw [← hn0] at N1 hdat
  simp -implicitDefEqProofs (maxSteps:=2000000) only [go_sem,↓reduceIte,e0,q0]
  refine VS.mono (N:=fun F' g'=>Bel h1.size h1 g'∧F' 0=.pointer (some ⟨wb,0,none⟩)∧F' 3=.pointer (some ⟨h.size,0,none⟩)∧F' 10=.pointer (some ⟨nbs a.node,0,none⟩)) ?_ ?_ (fun _ _ _ h=>h) (fun _ _ h=>h)
  ·refine VS.z (h1.size) [] (.p 0 (.p 1 (.p 2 (.q 3 (.p 4 (.q 5 (.p 6 (.q 7 (.p 8 .nil))))))))) mixed (by kernel_rfl) ?_
   simp -implicitDefEqProofs (maxSteps:=2000000) only [go_sem,↓reduceIte,Rn,q1,hwb,l3,hb,hi5,ri]
   try exact Bel.refl _ _
  rintro F2 g2 ⟨b2,f0,f3,f10⟩
  have kb2:=kp_still k1.dom b2
  have A2:=A1.still kb2
  have N2:=N1.still kb2
  have K2:=k1.trans kb2
  have tb2:=tb1.keep kb2
  have y3:=x3.keep kb2
  have P2:=node_rd N2.blk.2 N2.pt.store.len
  have P2u:=P2.up
  have hnb2:=lt_of_get N2.blk.2
  cases hu:n.up with
  | true=>
   rw [hu] at P2u
   have e1:started a.node (w.nodes a.node)=w.nodes a.node:=by unfold started; rw [← hn0,if_pos hu]
   rw [e1,set_self]
   simp -implicitDefEqProofs (maxSteps:=2000000) only [go_sem,↓reduceIte,f10,P2u]
   exact ⟨o,WA0,nbs,kp_all K2,A2⟩
  | false=>
   rw [hu] at P2u
   obtain ⟨pt,ct,hpt,hct⟩:=N2.pt.data.1.fits
   have hpt:na.data=.slice pt n.data.length ct:=hpt
   have P2t:=P2.tape
   rw [hpt] at P2t
   have ND:=N2.pt.data
   rw [hpt] at ND
   obtain ⟨D,hD⟩:∃ D,D=repD n.data n.syn:=⟨_,rfl⟩
   obtain ⟨Z,hZ⟩:∃ Z,Z=repN n.data n.syn:=⟨_,rfl⟩
   obtain ⟨acp,hacp⟩:∃ acp,acp=if tapeOk D Z then (recAll D).1 else acp0:=⟨_,rfl⟩
   have es:started a.node (w.nodes a.node)=blank a.node true D Z acp:=by unfold started; rw [← hn0,if_neg (by rw [hu]; simp),hacp,hD,hZ]
   rw [es]
   have hDl:D.length≤1000000:=by
    rw [hD]; unfold repD; split
    ·rw [List.length_take]; omega
    ·simp
   simp -implicitDefEqProofs (maxSteps:=2000000) only [go_sem,↓reduceIte,f10,P2u,P2t]
   refine (repair_ok T g2 _ n.syn n.data ND.bs hct (by omega) tb2.tk).use ?_
   rintro v3 g3 ⟨R3,b3⟩
   obtain ⟨p3,c3,E3,rfl,o3⟩:∃ p c E,v3=.tuple [.agg [.slice p D.length c,.int .i64 Z].toArray,.int .i64 E].toArray∧OBs g2.size 5 g3 (.slice p D.length c) D:=by
    obtain ⟨r,k,E,w',rfl,ob,hk,hr⟩:=R3
    have h1:(if E=0 then n.data.take k else [])=D:=by
     rw [hD]; unfold repD
     split at hr
     ·rename_i q; rw [if_pos hr.1,if_pos q,rec_all hr.2]
     ·rename_i q; rw [if_neg (show ¬ E=0 by omega),if_neg q]
    have h2:(if E=0 then (if (k:Int)<n.syn then (k:Int) else n.syn) else 0)=Z:=by
     rw [hZ]; unfold repN
     split at hr
     ·rename_i q; rw [if_pos hr.1,if_pos q,rec_all hr.2]
     ·rename_i q; rw [if_neg (show ¬ E=0 by omega),if_neg q]
    rw [h1] at ob
    rw [h2]
    obtain ⟨p,c,rfl,_⟩:=ob.open
    exact ⟨p,c,E,rfl,ob⟩
   have kb3:=kp_still K2.dom b3
   obtain ⟨g4,hg4⟩:∃ g4:Hp,g4=g3.push (.cells [.slice p3 D.length c3,.int .i64 Z].toArray 58):=⟨_,rfl⟩
   have k4:Kp noT o g2 o g4:=by rw [hg4]; exact kb3.push _
   have x11:BoxAt o g4 g3.size (.cells [.slice p3 D.length c3,.int .i64 Z].toArray 58):=⟨kb3.dom _ (Nat.le_refl _),by rw [hg4]; exact get_push_last⟩
   have e4:=hg4.symm
   have iD4:ImB o g4 (.slice p3 D.length c3) D:=by rw [hg4]; exact ImB.keep ⟨Im.of_own o3.own (fun b hb=>K2.dom b hb),o3.byte⟩ (kp_push kb3.dom _)
   have r11:rd g4 ⟨g3.size,0,none⟩ 2=some [.slice p3 D.length c3,.int .i64 Z]:=rd_last x11.2 rfl
   have tb4:=tb2.keep k4
   simp -implicitDefEqProofs (maxSteps:=2000000) only [go_sem,↓reduceIte,e4,r11]
   refine (recover_ok T g4 _ Z D iD4.bs (by omega) tb4.tk).use ?_
   rintro v5 g5 ⟨R5,b5⟩
   obtain ⟨p5,c5,E5,K5',rfl,o5⟩:∃ p c E K,v5=.tuple [.agg [.int .i64 acp.p.r,.int .i64 acp.p.n,.slice p acp.l.length c].toArray,.int .i64 K,.int .i64 E].toArray∧ImV o g5 (.slice p acp.l.length c) acp.l:=by
    obtain ⟨r,k,E,w',rfl,ob,hk,_,hr⟩:=R5
    have h1:r=acp:=by
     rw [hacp]
     split at hr
     ·rw [if_pos (by assumption),rec_all hr.2]
     ·rw [if_neg (by assumption)]; exact hr.2.1
    rw [h1] at ob ⊢
    have im:ImV o g5 w' acp.l:=Im.of_own ob.own (fun b hb=>k4.dom b hb)
    obtain ⟨p,c,rfl⟩:=im.isSlice
    exact ⟨p,c,E,_,rfl,im⟩
   have kb5:=kp_still k4.dom b5
   obtain ⟨g6,hg6⟩:∃ g6:Hp,g6=g5.push (.cells [.int .i64 acp.p.r,.int .i64 acp.p.n,.slice p5 acp.l.length c5].toArray 63):=⟨_,rfl⟩
   have k6:Kp noT o g4 o g6:=by rw [hg6]; exact kb5.push _
   have x13:BoxAt o g6 g5.size (.cells [.int .i64 acp.p.r,.int .i64 acp.p.n,.slice p5 acp.l.length c5].toArray 63):=⟨kb5.dom _ (Nat.le_refl _),by rw [hg6]; exact get_push_last⟩
   have e6:=hg6.symm
   have K6:Kp noT o h o g6:=(K2.trans k4).trans k6
   have iD6:=iD4.keep k6
   have iV6:ImV o g6 (.slice p5 acp.l.length c5) acp.l:=by rw [hg6]; exact o5.keep (kp_push kb5.dom _)
   have A6:=(A2.still k4).still k6
   have z3:=(y3.keep k4).keep k6
   have z11:=x11.keep k6
   clear hn hc5 hb hrd Rn hwb q1 l3 ri
   obtain ⟨b,off,c,hn,hc5,hb,hrd⟩:=nodes_rd A6.wd
   have R6:=world_rd A6.wd.blk.2
   have Rn:=R6.nodes
   rw [hn] at Rn
   have hwb:=lt_of_get A6.wd.blk.2
   have q1:hc g6 ⟨h.size,1,none⟩=some (.int .i64 a.node):=hc_last z3.2
   have l3:=lt_of_get z3.2
   have rt:rd g6 ⟨g3.size,0,none⟩ 2=some [.slice p3 D.length c3,.int .i64 Z]:=rd_last z11.2 rfl
   have lt:=lt_of_get z11.2
   have ra:rd g6 ⟨g5.size,0,none⟩ 3=some [.int .i64 acp.p.r,.int .i64 acp.p.n,.slice p5 acp.l.length c5]:=rd_last x13.2 rfl
   have la:=lt_of_get x13.2
   have cb:=blank_ok T g6 o wb a.node (.slice p3 D.length c3) D Z (.slice p5 acp.l.length c5) acp K6.dom iD6 iV6
   simp -implicitDefEqProofs (maxSteps:=2000000) only [go_sem,↓reduceIte,e6]
   refine VS.z (g6.size) [12] (.p 0 (.p 1 (.p 2 (.q 3 (.p 4 (.q 5 (.p 6 (.q 7 (.q 8 (.q 9 (.s 10 (.p 11 (.w 12 .nil))))))))))))) mixed (by kernel_rfl) ?_
   simp -implicitDefEqProofs (maxSteps:=2000000) only [go_sem,↓reduceIte,f0,f3,Rn,q1,rt,ra,hwb,l3,lt,la,hb,hi5]
   refine cb.use ?_
   rintro _ g7 ⟨nb,o7,a7,rfl,b7,k7,N7⟩
   have W7:=A6.wd.keep k7 (by rintro t (rfl | rfl) <;> simp [Tg.of])
   obtain ⟨b',off',c',g8,hn',w8,k8,W8⟩:=nodes_set k7.dom W7 a.node nb hi
   rw [hn] at hn'
   simp only [Value.slice.injEq,Option.some.injEq,Addr.mk.injEq,true_and,and_true] at hn'
   obtain ⟨⟨rfl,rfl⟩,rfl⟩:=hn'
   have hb7:b<g7.size:=Nat.lt_of_lt_of_le hb b7.size
   have N8:=N7.keep k8 (by rintro t rfl e; cases e)
   have K8:Kp anyT o h o7 g8:=((kp_all K6).trans (kp_all k7)).trans (kp_all k8)
   unfold ptrV at w8 ⊢
   simp -implicitDefEqProofs (maxSteps:=2000000) only [go_sem,↓reduceIte,b7,w8,hb7,hi5]
   have kk:Kp (fun t=>t=.nodes∨t.of=some a.node) o g6 o7 g8:=(k7.mono fun t q=>by rcases q with rfl | rfl <;> exact .inr rfl).trans (k8.mono fun t q=>.inl q)
   exact ⟨o7,WA0,_,K8,A6.fresh kk N8 W8⟩
def nptrs (nbs:Nat→Nat) (j:Nat):List Value:=(List.range j).map fun i=>ptrV (nbs i)
theorem nptrs_succ (nbs:Nat→Nat) (j:Nat):nptrs nbs (j+1)=nptrs nbs j++[ptrV (nbs j)]:=by
 unfold nptrs; rw [List.range_succ,List.map_append]; rfl
theorem nptrs_same (nbs:Nat→Nat) (j nb:Nat):nptrs (fun i=>if i=j then nb else nbs i) j=nptrs nbs j:=by
 unfold nptrs
 apply List.map_congr_left
 intro i hi
 rw [List.mem_range] at hi
 simp only
 rw [if_neg (by omega)]
set_option maxHeartbeats 4000000 in
theorem wopen_ok (T:World) (h:Hp) (o:Ow) (d:Dom o h) :
  CallsH Tryz.prog T 14 #[] h fun v' h'=>∃ wb nbs o' WA0,v'=ptrV wb∧Kp anyT o h o' h'∧AllAt o' h' wb nbs WA0 world0:=by
 refine CallsH.of_code' (args:=[]) Tryz.func14 rfl rfl rfl rfl ?_
 obtain ⟨wb,hwb0⟩:∃ wb,wb=h.size:=⟨_,rfl⟩
 obtain ⟨g1,hg1⟩:∃ g1:Hp,g1=h.push (.cells (worldC (fun _=>0) ⟨.slice none 0 0,.slice none 0 0,.slice none 0 0⟩).toArray 55):=⟨_,rfl⟩
 have e1:=hg1.symm
 unfold worldC at e1
 simp only at e1
 have k1:Kp anyT o h (updT o wb .world) g1:=by rw [hg1,hwb0]; exact ((Kp.refl d anyT).push _).adopt (Nat.le_refl _) (by simp) trivial
 have B1:BlkAt (updT o wb .world) .world g1 wb (.cells (worldC (fun _=>0) ⟨.slice none 0 0,.slice none 0 0,.slice none 0 0⟩).toArray 55):=⟨updT_same,by rw [hg1,hwb0]; exact get_push_last⟩
 simp -implicitDefEqProofs (maxSteps:=2000000) only [go_sem,↓reduceIte,e1]
 rw [← hwb0]
 refine VS.loop' (fun F g=>F 1=.pointer (some ⟨wb,0,none⟩)∧∃ (j:Nat) (o':Ow) (nbs:Nat→Nat) (v:Value),j≤5∧F 5=.int .i64 j∧Kp anyT o h o' g∧BlkAt o' .world g wb (.cells (worldC (fun _=>0) ⟨v,.slice none 0 0,.slice none 0 0⟩).toArray 55)∧OwnT o' .nodes 56 1 g v j (nptrs nbs j)∧∀ i,i<j→∃ a,NodeAt o' g wb i (nbs i) a (blank i true [] 0 acp0))
  (fun F _=>5 - (vi (F 5)).toNat) rfl ⟨rfl,0,_,fun _=>0,.slice none 0 0,by omega,rfl,k1,B1,OwnT.nil _ _ _ _ _,fun i hi=>by omega⟩ ?_
 clear B1 k1 e1 hg1
 rintro F2 g2 ⟨f1,j,o2,nbs,v,hj,f5,K2,B2,O2,N2⟩
 by_cases hlt:j<5
 ·have hlt':(j:Int)<5:=by omega
  obtain ⟨pv,cv,rfl,_⟩:=O2.isSlice
  have R2:=world_rd B2.2
  have Rn:=R2.nodes
  simp only at Rn
  have hwb:=lt_of_get B2.2
  have cb:CallsH Tryz.prog T 22 #[.int .i64 j,.agg #[.slice none 0 0,.int .i64 0],.agg #[.int .i64 0,.int .i64 0,.slice none 0 0]] g2 _:=blank_ok T g2 o2 wb j (.slice none 0 0) [] 0 (.slice none 0 0) acp0 K2.dom ⟨Im.nil _ _ _ _,fun x hx=>by cases hx⟩ (Im.nil _ _ _ _)
  simp -implicitDefEqProofs (maxSteps:=2000000) only [go_sem,↓reduceIte,f1,f5,hlt']
  refine VS.z (g2.size) [10,13] (.p 0 (.p 1 (.p 2 (.p 3 (.q 4 (.p 5 (.p 6 (.p 7 (.s 8 (.s 9 (.w 10 (.p 11 (.p 12 (.w 13 .nil)))))))))))))) mixed (by kernel_rfl) ?_
  simp -implicitDefEqProofs (maxSteps:=2000000) only [go_sem,↓reduceIte,f1,f5,Rn,hwb]
  refine cb.use ?_
  rintro _ g3 ⟨nb,o3,a3,rfl,b3,k3,N3⟩
  unfold ptrV
  simp -implicitDefEqProofs (maxSteps:=2000000) only [go_sem,↓reduceIte,b3]
  obtain ⟨g4,hg4⟩:∃ g4:Hp,g4=g3.push (.cells [ptrV nb].toArray 56):=⟨_,rfl⟩
  have e4:=hg4.symm
  unfold ptrV at e4
  rw [e4]
  have k4:Kp noT o3 g3 o3 g4:=by rw [hg4]; exact kp_push k3.dom _
  have B4:=(B2.keep k3 (by rintro (e | e) <;> cases e)).keep k4 (fun q=>q)
  have O4:=(O2.keep k3 (by rintro (e | e) <;> cases e)).keep k4 (fun q=>q)
  have N4:=N3.still k4
  have M4:∀ i,i<j→∃ a,NodeAt o3 g4 wb i (nbs i) a (blank i true [] 0 acp0):=fun i hi=>by
   obtain ⟨a,N⟩:=N2 i hi
   refine ⟨a,(N.keep k3 ?_).still k4⟩
   rintro t (rfl | rfl) e
   ·have:=Option.some.inj e; omega
   ·have:=Option.some.inj e; omega
  have x4:g4[g3.size]? = some (.cells [ptrV nb].toArray 56):=by rw [hg4]; exact get_push_last
  have src:Sl 1 g4 (.slice (some ⟨g3.size,0,none⟩) 1 1) 1 [ptrV nb]:=⟨_,1,rfl,rfl,fun _=>⟨g3.size,0,rfl,fun i hi=>by
   rw [hc_last x4,nth_eq,Nat.zero_add]; exact List.getElem?_eq_getElem hi⟩⟩
  refine append_tag (E:=56) (n:=1) (bytes:=8) (k:=1) tsl52 Tryz.underlying52 tn56 tz56 rfl tb56 O4 k4.dom src rfl (by omega) (by omega) ?_
  intro v' o5 g5 O5 k5 _
  have k5:Kp (fun u=>u=.nodes) o3 g4 o5 g5:=k5
  obtain ⟨p5,c5,rfl,_⟩:=O5.isSlice
  have B5:=B4.keep k5 (by intro e; cases e)
  have w5:=(world_rd B5.2).wnodes (.slice p5 (j+1) c5) rfl
  have hwb5:=lt_of_get B5.2
  obtain ⟨g6,hg6⟩:∃ g6,g6=g5.setIfInBounds wb (.cells (worldC (fun _=>0) ⟨.slice p5 (j+1) c5,.slice none 0 0,.slice none 0 0⟩).toArray 55):=⟨_,rfl⟩
  simp only at w5
  rw [← hg6] at w5
  have k6:Kp (fun t=>t=.world) o5 g5 o5 g6:=by rw [hg6]; exact (Kp.refl k5.dom (fun t=>t=.world)).set B5.1 rfl _
  have B6:BlkAt o5 .world g6 wb (.cells (worldC (fun _=>0) ⟨.slice p5 (j+1) c5,.slice none 0 0,.slice none 0 0⟩).toArray 55):=⟨B5.1,by rw [hg6]; exact get_set B5.2⟩
  have K6:Kp anyT o h o5 g6:=(((K2.trans (kp_all k3)).trans (kp_all k4)).trans (kp_all k5)).trans (kp_all k6)
  simp -implicitDefEqProofs (maxSteps:=2000000) only [go_sem,↓reduceIte,w5,hwb5,f5]
  unfold nLoop
  refine ⟨⟨f1,j+1,o5,(fun i=>if i=j then nb else nbs i),.slice p5 (j+1) c5,hlt,rfl,K6,B6,?_,fun i hi=>?_⟩,?_⟩
  ·rw [nptrs_succ,nptrs_same]
   simp only [↓reduceIte]
   exact O5.keep k6 (by intro e; cases e)
  ·by_cases e:i=j
   ·subst e
    refine ⟨a3,?_⟩
    simp only [↓reduceIte]
    exact (N4.keep k5 (by rintro t rfl e; cases e)).keep k6 (by rintro t rfl e; cases e)
   ·obtain ⟨a,N⟩:=M4 i (by omega)
    refine ⟨a,?_⟩
    simp only [if_neg e]
    exact (N.keep k5 (by rintro t rfl e; cases e)).keep k6 (by rintro t rfl e; cases e)
  ·simp only [vi,updo_some,↓reduceIte,f5]; omega
 ·have hge:¬ (j:Int)<5:=by omega
  obtain rfl:j=5:=by omega
  simp -implicitDefEqProofs (maxSteps:=2000000) only [go_sem,↓reduceIte,f1,f5,hge]
  exact ⟨wb,nbs,o2,_,rfl,K2,⟨B2,O2,⟨[],rfl,OwnT.nil _ _ _ _ _,fun x hx=>by cases hx⟩,OwnT.nil _ _ _ _ _⟩,fun i hi=>N2 i hi⟩
theorem cloneCm_ok (T:World) (h:Hp) (u:Value) (l:List Cm) (s:Ts Cmv.C 5 h u l) (hl:l.length≤2199023255552) :
  CallsH Tryz.prog T 16 #[u] h fun v' h'=>Ots h.size 77 Cmv.C 5 h' v' l∧Bel h.size h h':=by
 obtain ⟨p,c,rfl,hc1⟩:=cms_open s
 refine CallsH.of_code' (args:=[_]) Tryz.func16 rfl rfl rfl rfl ?_
 cases p with
 | none=>
  have:l=[]:=by
   cases l with
   | nil=>rfl
   | cons x l=>obtain ⟨b,o,hp,_⟩:=hc1 (by simp); cases hp
  subst this
  simp -implicitDefEqProofs (maxSteps:=2000000) only [go_sem,↓reduceIte]
  exact Ots.nil _ _ _ _ _
 | some a=>
  simp -implicitDefEqProofs (maxSteps:=2000000) only [go_sem,↓reduceIte]
  refine append_ts (E:=77) (B:=h.size) (n:=5) (bytes:=40) tsl41 Tryz.underlying41 tn77 tz77 rfl tb77 (fun _=>rfl) (Ots.nil' _ _ Cmv.C 5 _ _) (by simp) (s.bel (Bel.push (Nat.le_refl _) _)) (by simp; omega) (by omega) ?_
  intro v' h' ho hb _
  simp -implicitDefEqProofs (maxSteps:=2000000) only [go_sem,↓reduceIte]
  exact ⟨by simpa using ho,(Bel.push (Nat.le_refl _) _).trans hb⟩
structure Raw where
 k:Int
 n:Int
 a:Int
 b:Int
 data:List Nat
def Raw.ac (x:Raw):Ac:=⟨x.k,x.n.toNat,x.a.toNat,x.b,x.data⟩
def Raw.err (x:Raw):Int:=actErr x.k x.n x.a x.b x.data.length
def rawC (x:Raw × Value):List Value:=acC x.1.k x.1.n x.1.a x.1.b x.2
def scriptErr:List Raw→Int
 | []=>0
 | x :: l=>if x.err≠0 then x.err else scriptErr l
def runErr (l:List Raw):Int:=if 100000<l.length then 1 else scriptErr l
theorem rawC_len (x:Raw × Value):(rawC x).length=5:=rfl
theorem scriptErr_take {l:List Raw} {j:Nat} (hj:j<l.length) (h0:∀ x∈l.take j,x.err=0) (h1:l[j].err≠0):scriptErr l=l[j].err:=by
 induction l generalizing j with
 | nil=>simp at hj
 | cons y l ih=>
  cases j with
  | zero=>unfold scriptErr; rw [if_pos (by simpa using h1)]; rfl
  | succ j=>
   unfold scriptErr
   rw [if_neg (by simpa using h0 y (by simp))]
   exact ih (by simpa using hj) (fun x hx=>h0 x (by simp [hx])) (by simpa using h1)
theorem scriptErr_zero {l:List Raw} (h0:∀ x∈l,x.err=0):scriptErr l=0:=by
 induction l with
 | nil=>rfl
 | cons y l ih=>unfold scriptErr; rw [if_neg (by simpa using h0 y (by simp))]; exact ih fun x hx=>h0 x (by simp [hx])
theorem raw_ok {x:Raw} (h:x.err=0):(1≤x.k∧x.k≤9)∧(0≤x.n∧x.n≤4)∧(0≤x.a∧x.a≤1048576)∧(0≤x.b∧x.b≤100000)∧x.data.length≤2000:=by
 unfold Raw.err actErr at h
 by_cases c1:1≤x.k∧x.k≤9
 case neg=>rw [if_pos c1] at h; cases h
 rw [if_neg (by simpa using c1)] at h
 by_cases c2:(hasNode x.k∧¬ (0≤x.n∧x.n≤4))∨(hasAt x.k∧¬ (0≤x.a∧x.a≤1048576))∨(x.k=8∧¬ (0≤x.b∧x.b≤100000))
 ·rw [if_pos c2] at h; cases h
 rw [if_neg c2] at h
 by_cases c3:2000<x.data.length
 ·rw [if_pos c3] at h; cases h
 rw [if_neg c3] at h
 by_cases c4:(¬ hasNode x.k∧x.n≠0)∨(¬ hasAt x.k∧x.a≠0)∨(x.k≠8∧x.b≠0)∨(x.k≠1∧0<x.data.length)
 ·rw [if_pos c4] at h; cases h
 refine ⟨c1,?_,?_,?_,by omega⟩
 ·by_cases q:hasNode x.k
  ·exact Classical.byContradiction fun e=>c2 (.inl ⟨q,e⟩)
  ·have:x.n=0:=Classical.byContradiction fun e=>c4 (.inl ⟨q,e⟩)
   omega
 ·by_cases q:hasAt x.k
  ·exact Classical.byContradiction fun e=>c2 (.inr (.inl ⟨q,e⟩))
  ·have:x.a=0:=Classical.byContradiction fun e=>c4 (.inr (.inl ⟨q,e⟩))
   omega
 ·by_cases q:x.k=8
  ·exact Classical.byContradiction fun e=>c2 (.inr (.inr ⟨q,e⟩))
  ·have:x.b=0:=Classical.byContradiction fun e=>c4 (.inr (.inr (.inl ⟨q,e⟩)))
   omega
def raws (xs:List (Raw × Value)):List Raw:=xs.map (·.1)
def noO:Ow:=fun _=>none
theorem dom_no (h:Hp):Dom noO h:=fun _ _=>rfl
theorem kp_bel {S:Tg→Prop} {h h':Hp} {o':Ow} (k:Kp S noO h o' h'):Bel h.size h h':=
 ⟨k.size,fun b hb=>(k.keep b hb fun t ht=>by cases ht).1⟩
def rsZ:List Value:=[.int .i64 0,.bool false,.bool false,.bool false,.bool false,.bool false,.slice none 0 0,.int .i64 0,.int .i64 0,.int .i64 0,.int .i64 0,.int .i64 0,.slice none 0 0]
def rsC (w:Wd) (lv tv:Value):List Value:=[.int .i64 w.flying.length,.bool (w.nodes 0).up,.bool (w.nodes 1).up,.bool (w.nodes 2).up,.bool (w.nodes 3).up,.bool (w.nodes 4).up,lv,.int .i64 (w.bad 0),.int .i64 (w.bad 1),.int .i64 (w.bad 2),.int .i64 (w.bad 3),.int .i64 (w.bad 4),tv]
structure RsAt (h:Hp) (R:List Value) (w:Wd) (lv tv:Value) (vs:List Value):Prop where
 cells:R=rsC w lv tv
 logs:Ts (fun v=>[v]) 1 h lv vs
 each:Al2 (fun v l=>Ts Cmv.C 5 h v l) vs [(w.nodes 0).log,(w.nodes 1).log,(w.nodes 2).log,(w.nodes 3).log,(w.nodes 4).log]
 told:Ts tldC 5 h tv w.told
def RnRes (h':Hp) (v':Value) (l:List Raw):Prop:=
 if runErr l=0 then ∃ R lv tv vs,v'=.tuple #[.agg R.toArray,.int .i64 0]∧RsAt h' R (runW (l.map Raw.ac)) lv tv vs
 else v'=.tuple #[.agg rsZ.toArray,.int .i64 (runErr l)]
theorem raws_open {h:Hp} {v:Value} {l:List (Raw × Value)} (s:Ts rawC 5 h v l):∃ p c,v=.slice p l.length c∧(l≠[]→∃ b o,p=some ⟨b,o,none⟩∧b<h.size∧∀ i (hi:i<l.length),rd h ⟨b,o+i*5,none⟩ 5=some (rawC l[i])):=by
 obtain ⟨p,c,hv,hh⟩:=s.open rawC_len (by decide)
 refine ⟨p,c,hv,fun hne=>?_⟩
 obtain ⟨b,o,h1,h2,h3⟩:=hh hne
 exact ⟨b,o,h1,h2,fun i hi=>(h3 i hi).rd (by simp [rawC,acC]) rfl⟩
def rsM (w:Wd) (j:Nat) (lv tv:Value):List Value:=[.int .i64 w.flying.length,.bool (if 0<j then (w.nodes 0).up else false),.bool (if 1<j then (w.nodes 1).up else false),.bool (if 2<j then (w.nodes 2).up else false),.bool (if 3<j then (w.nodes 3).up else false),.bool (if 4<j then (w.nodes 4).up else false),lv,.int .i64 (w.bad 0),.int .i64 (w.bad 1),.int .i64 (w.bad 2),.int .i64 (w.bad 3),.int .i64 (w.bad 4),tv]
theorem rsM_len (w:Wd) (j:Nat) (lv tv:Value):(rsM w j lv tv).length=13:=rfl
theorem rsM_up (w:Wd) (j:Nat) (lv tv:Value) (hj:j<5):(rsM w j lv tv).set (1+j) (.bool (w.nodes j).up)=rsM w (j+1) lv tv:=by
 match j,hj with
 | 0,_=>rfl
 | 1,_=>rfl
 | 2,_=>rfl
 | 3,_=>rfl
 | 4,_=>rfl
theorem rsM_log (w:Wd) (j:Nat) (lv lv' tv:Value):(rsM w j lv tv).set 6 lv'=rsM w j lv' tv:=rfl
def logsOf (w:Wd) (j:Nat):List (List Cm):=(List.range j).map fun i=>(w.nodes i).log
theorem logsOf_succ (w:Wd) (j:Nat):logsOf w (j+1)=logsOf w j++[(w.nodes j).log]:=by
 unfold logsOf; rw [List.range_succ,List.map_append]; rfl
def resT (t:Tg):Prop:=t=.log 100∨t=.log 101
theorem al2_mono {α β:Type} {R R':α→β→Prop} {l:List α} {k:List β} (s:Al2 R l k) (h:∀ x y,R x y→R' x y):Al2 R' l k:=by
 induction s with
 | nil=>exact .nil
 | cons a _ ih=>exact .cons (h _ _ a) ih
theorem own_set {o:Ow} {t:Tg} {E:TypeId} {n m k:Nat} {h:Hp} {v:Value} {cs:List Value} (d:Dom o h) (s:OwnT o t E n h v m cs) (hk:o k=none) (hlt:k<h.size) (ht:t ≠ .stale 99) (x:Obj):∃ o',OwnT o' t E n (h.setIfInBounds k x) v m cs:=by
 have d2:Dom (updT o k (Tg.stale 99)) h:=fun b hb=>by rw [updT_ne (by omega)]; exact d b hb
 have s2:OwnT (updT o k (Tg.stale 99)) t E n h v m cs:=by
  rcases s with s | ⟨b,j,cap,pre,spare,h1,h2,h3,h4,h5,h6,h7⟩
  ·exact .inl s
  ·exact .inr ⟨b,j,cap,pre,spare,by rw [updT_ne (fun e=>by rw [e,hk] at h1; cases h1)]; exact h1,h2,h3,h4,h5,h6,h7⟩
 have k2:Kp (fun u=>u=Tg.stale 99) (updT o k (Tg.stale 99)) h (updT o k (Tg.stale 99)) (h.setIfInBounds k x):=(Kp.refl d2 (fun u=>u=Tg.stale 99)).set updT_same rfl x
 exact ⟨_,s2.keep k2 ht⟩
theorem im_set {o:Ow} {n m k:Nat} {h:Hp} {v:Value} {cs:List Value} (d:Dom o h) (s:Im o n h v m cs) (hk:k<h.size) (hv:∀ b,blkOf v=some b→b≠k) (x:Obj):Sl n (h.setIfInBounds k x) v m cs:=by
 have d2:Dom (updT o k Tg.nodes) h:=fun b hb=>by rw [updT_ne (by omega)]; exact d b hb
 have s2:Im (updT o k Tg.nodes) n h v m cs:=⟨s.sl,s.fits,fun b hb=>⟨(s.free b hb).1,by rw [updT_ne (hv b hb)]; exact (s.free b hb).2⟩⟩
 have k2:Kp (fun t=>t=Tg.nodes) (updT o k Tg.nodes) h (updT o k Tg.nodes) (h.setIfInBounds k x):=(Kp.refl d2 (fun t=>t=Tg.nodes)).set updT_same rfl x
 exact (s2.keep k2).sl
theorem encs_self (l:List Value):encs (fun v=>[v]) l=l:=by
 induction l with
 | nil=>rfl
 | cons x l ih=>
  have:encs (fun v=>[v]) (x :: l)=[x]++encs (fun v=>[v]) l:=by simp [encs]
  rw [this,ih]; rfl
set_option maxHeartbeats 8000000 in
theorem mrun_ok (T:World) (h:Hp) (v:Value) (xs:List (Raw × Value)) (hv:Ts rawC 5 h v xs) (hx:∀ x∈xs,ImB noO h x.2 x.1.data) (tb:Tbs noO h) (hxl:xs.length≤4611686018427387904)
  (inv:(∀ x∈raws xs,x.err=0)→xs.length≤100000→∀ j,j≤xs.length→WOk (runW (((raws xs).take j).map Raw.ac))) :
  CallsH Tryz.prog T 6 #[v] h fun v' h'=>Bel h.size h h'∧RnRes h' v' (raws xs):=by
 obtain ⟨p,c,rfl,hcs⟩:=raws_open hv
 refine CallsH.of_code2 (args:=[_]) Tryz.func6 rfl rfl rfl rfl ?_
 obtain ⟨h1,hh1⟩:∃ h1:Hp,h1=h.push (.cells rsZ.toArray 29):=⟨_,rfl⟩
 have e1:=hh1.symm
 unfold rsZ at e1
 have b1:Bel h.size h h1:=by rw [hh1]; exact Bel.push (Nat.le_refl _) _
 have s1:h1.size=h.size+1:=by rw [hh1]; simp
 have x2:h1[h.size]? = some (.cells rsZ.toArray 29):=by rw [hh1]; exact get_push_last
 have rl:(raws xs).length=xs.length:=by unfold raws; simp
 have rz:∀ G:Hp,Bel h1.size h1 G→G[h.size]? = some (.cells rsZ.toArray 29):=fun G hG=>hG.get (by omega) x2
 have wz:∀ G:Hp,Bel h1.size h1 G→wr G ⟨h.size,0,none⟩ [.int .i64 0,.bool false,.bool false,.bool false,.bool false,.bool false,.slice none 0 0,.int .i64 0,.int .i64 0,.int .i64 0,.int .i64 0,.int .i64 0,.slice none 0 0]=some G:=fun G hG=>by
  rw [wr_get (rz G hG) 0 _]
  have:(G.setIfInBounds h.size (.cells (lput rsZ 0 [.int .i64 0,.bool false,.bool false,.bool false,.bool false,.bool false,.slice none 0 0,.int .i64 0,.int .i64 0,.int .i64 0,.int .i64 0,.int .i64 0,.slice none 0 0]).toArray 29))=G:=set_back (rz G hG)
  rw [if_pos ⟨by simp [rsZ],rfl⟩]
  exact congrArg some this
 have rr:∀ G:Hp,Bel h1.size h1 G→rd G ⟨h.size,0,none⟩ 13=some [.int .i64 0,.bool false,.bool false,.bool false,.bool false,.bool false,.slice none 0 0,.int .i64 0,.int .i64 0,.int .i64 0,.int .i64 0,.int .i64 0,.slice none 0 0]:=fun G hG=>rd_last (rz G hG) rfl
 have w0:=wz h1 (Bel.refl _ _)
 have r0:=rr h1 (Bel.refl _ _)
 have l0:=lt_of_get x2
 by_cases hbig:100000<xs.length
 ·have hbig':(xs.length:Int) > 100000:=by omega
  have e2:runErr (raws xs)=1:=by unfold runErr; rw [rl,if_pos hbig]
  simp -implicitDefEqProofs (maxSteps:=2000000) only [go_sem,↓reduceIte,e1,hbig',w0,r0]
  refine ⟨b1,?_⟩
  unfold RnRes
  rw [e2,if_neg (by decide)]
  rfl
 have hbig':¬ (xs.length:Int) > 100000:=by omega
 have hsmall:xs.length≤100000:=by omega
 have e2:runErr (raws xs)=scriptErr (raws xs):=by unfold runErr; rw [rl,if_neg hbig]
 have raw_at:∀ i (hi:i<xs.length),(raws xs)[i]'(by rw [rl]; exact hi)=xs[i].1:=fun i hi=>by unfold raws; simp
 simp -implicitDefEqProofs (maxSteps:=2000000) only [go_sem,↓reduceIte,e1,hbig']
 refine VS.loop' (fun F g=>F 0=.slice p xs.length c∧F 2=.pointer (some ⟨h.size,0,none⟩)∧F 17=.slice p xs.length c∧F 18=.int .i64 xs.length∧Bel h1.size h1 g∧∃ j:Nat,j≤xs.length∧F 19=.int .i64 j∧∀ x∈(raws xs).take j,x.err=0)
  (fun F _=>xs.length - (vi (F 19)).toNat) rfl ⟨rfl,rfl,rfl,rfl,Bel.refl _ _,0,Nat.zero_le _,rfl,fun x hx=>by simp at hx⟩ ?_
 rintro F2 g2 ⟨f0,f2,f17,f18,b2,j,hj,f19,hz⟩
 by_cases hlt:j<xs.length
 ·have hlt':(j:Int)<xs.length:=by omega
  obtain ⟨bb,oo,rfl,hbb,hrd⟩:=hcs (by intro e; rw [e] at hlt; simp at hlt)
  obtain ⟨x,hx0⟩:∃ x,x=xs[j]:=⟨_,rfl⟩
  have hxm:x∈xs:=by rw [hx0]; exact List.getElem_mem hlt
  have iv:=hx x hxm
  obtain ⟨pd,cd,hpd⟩:=iv.1.isSlice
  have r1:rd g2 ⟨bb,oo+j*5,none⟩ 5=some (rawC x):=by rw [rd_bel (b1.trans (b2.mono (by omega))) hbb,hx0]; exact hrd j hlt
  unfold rawC acC at r1
  rw [hpd] at r1
  obtain ⟨g3,hg3⟩:∃ g3:Hp,g3=g2.push (.cells (acC x.1.k x.1.n x.1.a x.1.b (.slice pd x.1.data.length cd)).toArray 46):=⟨_,rfl⟩
  have e3:=hg3.symm
  have y3:g3[g2.size]? = some (.cells (acC x.1.k x.1.n x.1.a x.1.b (.slice pd x.1.data.length cd)).toArray 46):=by rw [hg3]; exact get_push_last
  have r3:rd g3 ⟨g2.size,0,none⟩ 5=some (acC x.1.k x.1.n x.1.a x.1.b (.slice pd x.1.data.length cd)):=rd_last y3 rfl
  unfold acC at e3 r3
  have b3:Bel h1.size h1 g3:=by rw [hg3]; exact b2.addP b2.size _
  have ck:=linesCheck_ok T g3 x.1.k x.1.n x.1.a x.1.b pd x.1.data.length cd
  unfold actC at ck
  simp -implicitDefEqProofs (maxSteps:=2000000) only [go_sem,↓reduceIte,f0,f2,f17,f18,f19,hlt',r1,e3,r3]
  refine ck.use ?_
  rintro _ g4 ⟨rfl,b4⟩
  have B4:Bel h1.size h1 g4:=b3.trans (b4.mono b3.size)
  have exr:x.1.err=actErr x.1.k x.1.n x.1.a x.1.b x.1.data.length:=rfl
  rw [← exr]
  by_cases hex:x.1.err=0
  ·simp -implicitDefEqProofs (maxSteps:=2000000) only [go_sem,↓reduceIte,hex,f19]
   unfold nLoop
   refine ⟨⟨f0,f2,f17,f18,B4,j+1,hlt,rfl,fun y hy=>?_⟩,?_⟩
   ·rw [take_snoc _ j (by rw [rl]; exact hlt),List.mem_append] at hy
    rcases hy with hy | hy
    ·exact hz y hy
    ·rw [raw_at j hlt,← hx0] at hy
     have:y=x.1:=by simpa using hy
     rw [this]; exact hex
   ·simp only [vi,updo_some,↓reduceIte,f19]; omega
  ·have w4:=wz g4 B4
   have r4:=rr g4 B4
   have l4:=lt_of_get (rz g4 B4)
   simp -implicitDefEqProofs (maxSteps:=2000000) only [go_sem,↓reduceIte,hex,w4,r4,f2,l4]
   refine ⟨b1.trans (B4.mono (by omega)),?_⟩
   unfold RnRes
   have:scriptErr (raws xs)=x.1.err:=by
    have:=scriptErr_take (l:=raws xs) (j:=j) (by rw [rl]; exact hlt) hz (by rw [raw_at j hlt,← hx0]; exact hex)
    rw [this,raw_at j hlt,← hx0]
   rw [e2,this,if_neg hex]
   rfl
 have hge:¬ (j:Int)<xs.length:=by omega
 obtain rfl:j=xs.length:=by omega
 have hall:∀ x∈raws xs,x.err=0:=fun x hx=>hz x (by rw [List.take_of_length_le (by omega)]; exact hx)
 have hzero:runErr (raws xs)=0:=by rw [e2]; exact scriptErr_zero hall
 have inv:=inv hall hsmall
 simp -implicitDefEqProofs (maxSteps:=2000000) only [go_sem,↓reduceIte,f18,f19,hge]
 refine (wopen_ok T g2 noO (dom_no g2)).use ?_
 rintro _ g3 ⟨wb,nbs3,o3,WA3,rfl,K3,A3⟩
 unfold ptrV
 have bh2:Bel h.size h g2:=b1.trans (b2.mono (by omega))
 have kh2:Kp anyT noO h noO g2:=Kp.of_bel (dom_no h) bh2 _
 obtain ⟨acs,hacs⟩:∃ acs,acs=(raws xs).map Raw.ac:=⟨_,rfl⟩
 have acsl:acs.length=xs.length:=by rw [hacs,List.length_map,rl]
 have inv:∀ j,j≤xs.length→WOk (runW (acs.take j)):=fun j hj=>by
  have:=inv j hj
  rw [hacs,← List.map_take]; exact this
 simp -implicitDefEqProofs (maxSteps:=2000000) only [go_sem,↓reduceIte,f0,f2]
 refine VS.loop' (fun F g=>F 2=.pointer (some ⟨h.size,0,none⟩)∧F 7=.pointer (some ⟨wb,0,none⟩)∧F 31=.slice p xs.length c∧F 32=.int .i64 xs.length∧∃ (j:Nat) (o':Ow) (nbs:Nat→Nat) (WA':WA),j≤xs.length∧F 33=.int .i64 j∧Kp anyT noO g2 o' g∧AllAt o' g wb nbs WA' (runW (acs.take j)))
  (fun F _=>xs.length - (vi (F 33)).toNat) rfl ⟨f2,rfl,rfl,rfl,0,o3,nbs3,WA3,Nat.zero_le _,rfl,K3,A3⟩ ?_
 clear f0 f2 f17 f18 f19 K3 A3
 rintro F4 g4 ⟨f2,f7,f31,f32,j,o4,nbs4,WA4,hj,f33,K4,A4⟩
 by_cases hlt:j<xs.length
 ·have hlt':(j:Int)<xs.length:=by omega
  obtain ⟨bb,oo,rfl,hbb,hrd⟩:=hcs (by intro e; rw [e] at hlt; simp at hlt)
  obtain ⟨x,hx0⟩:∃ x,x=xs[j]:=⟨_,rfl⟩
  have hxm:x∈xs:=by rw [hx0]; exact List.getElem_mem hlt
  have hxe:x.1.err=0:=hall x.1 (by unfold raws; exact List.mem_map_of_mem hxm)
  obtain ⟨q1,q2,q3,q4,q5⟩:=raw_ok hxe
  have Kh4:Kp anyT noO h o4 g4:=kh2.trans K4
  have iv:=(hx x hxm).keep Kh4
  obtain ⟨pd,cd,hpd⟩:=iv.1.isSlice
  have r1:rd g4 ⟨bb,oo+j*5,none⟩ 5=some (rawC x):=by rw [rd_bel (kp_bel Kh4) hbb,hx0]; exact hrd j hlt
  unfold rawC acC at r1
  rw [hpd] at r1 iv
  obtain ⟨g5,hg5⟩:∃ g5:Hp,g5=g4.push (.cells (acC x.1.k x.1.n x.1.a x.1.b (.slice pd x.1.data.length cd)).toArray 46):=⟨_,rfl⟩
  have e5:=hg5.symm
  have k5:Kp noT o4 g4 o4 g5:=by rw [hg5]; exact kp_push K4.dom _
  have y5:g5[g4.size]? = some (.cells (acC x.1.k x.1.n x.1.a x.1.b (.slice pd x.1.data.length cd)).toArray 46):=by rw [hg5]; exact get_push_last
  have r5:rd g5 ⟨g4.size,0,none⟩ 5=some (acC x.1.k x.1.n x.1.a x.1.b (.slice pd x.1.data.length cd)):=rd_last y5 rfl
  unfold acC at e5 r5
  have en:((x.1.n.toNat:Nat):Int)=x.1.n:=by omega
  have ea:((x.1.a.toNat:Nat):Int)=x.1.a:=by omega
  have cd2:=wdo_ok T g5 o4 wb nbs4 WA4 (runW (acs.take j)) x.1.ac (.slice pd x.1.data.length cd) k5.dom (A4.still k5) (inv j hj) q1 (by unfold Raw.ac; simp only; omega) (iv.keep k5) (by unfold Raw.ac; simp only; omega) ((tb.keep Kh4).keep k5)
  unfold ptrV acC Raw.ac at cd2
  simp only at cd2
  rw [en,ea] at cd2
  have hnext:runW (acs.take (j+1))=act (runW (acs.take j)) ⟨x.1.k,x.1.n.toNat,x.1.a.toNat,x.1.b,x.1.data⟩:=by
   rw [take_snoc _ j (by rw [acsl]; exact hlt)]
   unfold runW
   rw [List.foldl_append]
   have:acs[j]'(by rw [acsl]; exact hlt)=⟨x.1.k,x.1.n.toNat,x.1.a.toNat,x.1.b,x.1.data⟩:=by
    simp only [hacs,List.getElem_map,raw_at j hlt,← hx0]; rfl
   rw [this]; rfl
  simp -implicitDefEqProofs (maxSteps:=2000000) only [go_sem,↓reduceIte,f2,f7,f31,f32,f33,hlt',r1,e5,r5]
  refine cd2.use ?_
  rintro v' g6 ⟨o6,WA6,nbs6,k6,A6⟩
  simp -implicitDefEqProofs (maxSteps:=2000000) only [go_sem,↓reduceIte,f33]
  unfold nLoop
  refine ⟨⟨f2,f7,f31,f32,j+1,o6,nbs6,WA6,hlt,rfl,(K4.trans (kp_all k5)).trans k6,by rw [hnext]; exact A6⟩,?_⟩
  simp only [vi,updo_some,↓reduceIte,f33]; omega
 have hge:¬ (j:Int)<xs.length:=by omega
 obtain rfl:j=xs.length:=by omega
 rw [List.take_of_length_le (by omega)] at A4
 have okW:=inv xs.length (Nat.le_refl _)
 rw [List.take_of_length_le (by omega)] at okW
 obtain ⟨w,hw⟩:∃ w,w=runW acs:=⟨_,rfl⟩
 rw [← hw] at A4 okW
 have U4:=world_rd A4.wd.blk.2
 have U4o:=U4.out
 have hwb4:=lt_of_get A4.wd.blk.2
 obtain ⟨pf,cf,hpf,_⟩:=lts_slice A4.wd.flying
 obtain ⟨pt,ct,hpt,_⟩:=A4.wd.told.isSlice
 obtain ⟨tv,htv⟩:∃ tv,tv=WA4.told:=⟨_,rfl⟩
 rw [hpt] at U4o htv
 obtain ⟨kb,hkb⟩:∃ kb,kb=g4.size:=⟨_,rfl⟩
 obtain ⟨g5,hg5⟩:∃ g5:Hp,g5=g4.push (.cells [.int .i64 0,.bool false,.bool false,.bool false,.bool false,.bool false,.slice none 0 0,.int .i64 (w.bad 0),.int .i64 (w.bad 1),.int .i64 (w.bad 2),.int .i64 (w.bad 3),.int .i64 (w.bad 4),.slice pt w.told.length ct].toArray 29):=⟨_,rfl⟩
 have e5:=hg5.symm
 have y5:g5[kb]? = some (.cells [.int .i64 0,.bool false,.bool false,.bool false,.bool false,.bool false,.slice none 0 0,.int .i64 (w.bad 0),.int .i64 (w.bad 1),.int .i64 (w.bad 2),.int .i64 (w.bad 3),.int .i64 (w.bad 4),.slice pt w.told.length ct].toArray 29):=by rw [hg5,hkb]; exact get_push_last
 have k5:Kp noT o4 g4 o4 g5:=by rw [hg5]; exact kp_push K4.dom _
 obtain ⟨g6,hg6⟩:∃ g6:Hp,g6=g5.setIfInBounds kb (.cells (rsM w 0 (.slice none 0 0) (.slice pt w.told.length ct)).toArray 29):=⟨_,rfl⟩
 have w6:wr1 g5 ⟨kb,0,none⟩ (.int .i64 w.flying.length)=some g6:=by rw [wr1_get y5 0 _,hg6]; rfl
 have l5:=lt_of_get y5
 obtain ⟨o6,ho6⟩:∃ o6,o6=updT o4 kb (.log 101):=⟨_,rfl⟩
 have k6:Kp resT o4 g4 o6 g6:=by rw [ho6,hg6]; exact ((kp_any k5).adopt (by omega) l5 (.inr rfl)).setNew (by omega) _
 have B6:BlkAt o6 (.log 101) g6 kb (.cells (rsM w 0 (.slice none 0 0) (.slice pt w.told.length ct)).toArray 29):=⟨by rw [ho6]; exact updT_same,by rw [hg6]; exact get_set y5⟩
 have A5:=A4.still k5
 have U5:=world_rd A5.wd.blk.2
 have U5f:=U5.flying
 rw [hpf] at U5f
 have hwb5:=lt_of_get A5.wd.blk.2
 have nof:∀ t,resT t→t.of≠none:=by rintro t (rfl | rfl) e <;> cases e
 have non:∀ t (i:Nat),i<5→resT t→t.of≠some i:=by
  rintro t i hi (rfl | rfl) e
  ·have:=Option.some.inj e; omega
  ·have:=Option.some.inj e; omega
 have W6:=A4.wd.keep k6 nof
 obtain ⟨bn,offn,cn,hn,hcn,hbn,hrdn⟩:=nodes_rd W6
 have U6n:=(world_rd W6.blk.2).nodes
 rw [hn] at U6n
 have hwb6:=lt_of_get W6.blk.2
 simp -implicitDefEqProofs (maxSteps:=2000000) only [go_sem,↓reduceIte,f32,f33,hge,f2,f7,U4o,hwb4,e5]
 rw [← hkb]
 simp -implicitDefEqProofs (maxSteps:=2000000) only [go_sem,↓reduceIte,f7,U5f,hwb5,w6,l5,U6n,hwb6]
 refine VS.loop' (fun F g=>F 2=.pointer (some ⟨h.size,0,none⟩)∧F 10=.pointer (some ⟨kb,0,none⟩)∧F 54=.slice (some ⟨bn,offn,none⟩) 5 cn∧F 55=.int .i64 5∧∃ (j:Nat) (o':Ow) (lv:Value) (vs:List Value),j≤5∧F 56=.int .i64 j∧Kp resT o4 g4 o' g∧BlkAt o' (.log 101) g kb (.cells (rsM w j lv (.slice pt w.told.length ct)).toArray 29) ∧
   OwnT o' (.log 100) 41 1 g lv j vs∧Al2 (fun v l=>Im o' 5 g v l.length (encs Cmv.C l)∧∀ b,blkOf v=some b→g4.size≤b) vs (logsOf w j))
  (fun F _=>5 - (vi (F 56)).toNat) rfl ⟨f2,rfl,rfl,rfl,0,o6,.slice none 0 0,[],by omega,rfl,k6,B6,OwnT.nil _ _ _ _ _,.nil⟩ ?_
 clear f2 f7 f31 f32 f33 B6 k6 w6 l5 U6n hwb6 W6 hrdn hbn ho6 hg6 y5 e5
 rintro F7 g7 ⟨f2,f10,f54,f55,j,o7,lv,vs,hj,f56,K7,B7,O7,L7⟩
 have W7:=A4.wd.keep K7 nof
 by_cases hlt:j<5
 ·have hlt':(j:Int)<5:=by omega
  obtain ⟨na,N4j⟩:=A4.nd j hlt
  have N7:=N4j.keep K7 (fun t q=>non t j hlt q)
  obtain ⟨bn',offn',cn',hn',hcn',hbn,hrdn⟩:=nodes_rd W7
  rw [hn] at hn'
  simp only [Value.slice.injEq,Option.some.injEq,Addr.mk.injEq,true_and,and_true] at hn'
  obtain ⟨⟨rfl,rfl⟩,rfl⟩:=hn'
  have ri:=hrdn j hlt
  unfold ptrV at ri
  have P7:=node_rd N7.blk.2 N7.pt.store.len
  have P7u:=P7.up
  have hnb7:=lt_of_get N7.blk.2
  have l7:=lt_of_get B7.2
  obtain ⟨g8,hg8⟩:∃ g8:Hp,g8=g7.setIfInBounds kb (.cells (rsM w (j+1) lv (.slice pt w.told.length ct)).toArray 29):=⟨_,rfl⟩
  have w8:wr1 g7 ⟨kb,1+j,none⟩ (.bool (w.nodes j).up)=some g8:=by
   rw [wr1_get B7.2,if_pos ⟨by rw [rsM_len]; omega,rfl⟩,rsM_up w j lv _ hlt,hg8]
  have k8:Kp resT o7 g7 o7 g8:=by rw [hg8]; exact (Kp.refl K7.dom resT).set B7.1 (.inr rfl) _
  have k8':Kp (fun t=>t=.log 101) o7 g7 o7 g8:=by rw [hg8]; exact (Kp.refl K7.dom (fun t=>t=.log 101)).set B7.1 rfl _
  have B8:BlkAt o7 (.log 101) g8 kb (.cells (rsM w (j+1) lv (.slice pt w.told.length ct)).toArray 29):=⟨B7.1,by rw [hg8]; exact get_set B7.2⟩
  have O8:=O7.keep k8' (by intro e; cases e)
  have L8:=al2_mono L7 (R':=fun v l=>Im o7 5 g8 v l.length (encs Cmv.C l)∧∀ b,blkOf v=some b→g4.size≤b) (fun v l q=>⟨q.1.keep k8,q.2⟩)
  have K8:=K7.trans k8
  have N8:=N7.keep k8 (fun t q=>non t j hlt q)
  have P8l:=(node_rd N8.blk.2 N8.pt.store.len).log
  obtain ⟨pl,cl,hpl,_⟩:=OwnT.isSlice N8.pt.log
  have hpl:na.log=.slice pl (w.nodes j).log.length cl:=hpl
  rw [hpl] at P8l
  have Tl:=N8.pt.log.ts
  rw [hpl] at Tl
  have hnb8:=lt_of_get N8.blk.2
  have l8:=lt_of_get B8.2
  obtain ⟨plv,clv,rfl,_⟩:=O8.isSlice
  have r8:hc g8 ⟨kb,6,none⟩=some (.slice plv j clv):=hc_last B8.2
  have cc:=cloneCm_ok T g8 (.slice pl (w.nodes j).log.length cl) (w.nodes j).log Tl (by have:=okW.log j hlt; omega)
  simp -implicitDefEqProofs (maxSteps:=2000000) only [go_sem,↓reduceIte,f2,f10,f54,f55,f56,hlt',ri,P7u,hnb7,w8,l7,hbn]
  refine VS.z (g8.size) [8,10] (.p 0 (.q 1 (.p 2 (.p 3 (.p 4 (.q 5 (.s 6 (.s 7 (.w 8 (.p 9 (.w 10 .nil))))))))))) mixed (by kernel_rfl) ?_
  simp -implicitDefEqProofs (maxSteps:=2000000) only [go_sem,↓reduceIte,f2,f10,r8,P8l,hnb8,l8]
  refine cc.use ?_
  rintro v9 g9 ⟨o9,b9⟩
  have k9:Kp noT o7 g8 o7 g9:=kp_still K8.dom b9
  have im9:Im o7 5 g9 v9 (w.nodes j).log.length (encs Cmv.C (w.nodes j).log):=Im.of_own o9.own (fun b hb=>K8.dom b hb)
  have lo9:∀ b,blkOf v9=some b→g4.size≤b:=fun b hb=>Nat.le_trans K8.size (o9.own.blk b hb)
  obtain ⟨p9,c9,rfl⟩:=im9.isSlice
  obtain ⟨g10,hg10⟩:∃ g10:Hp,g10=g9.push (.cells [.slice p9 (w.nodes j).log.length c9].toArray 41):=⟨_,rfl⟩
  have e10:=hg10.symm
  have k10:Kp noT o7 g9 o7 g10:=by rw [hg10]; exact kp_push k9.dom _
  have K10:Kp resT o4 g4 o7 g10:=(K8.trans (kp_any k9)).trans (kp_any k10)
  have B10:=(B8.keep k9 (fun q=>q)).keep k10 (fun q=>q)
  have O10:=(O8.keep k9 (fun q=>q)).keep k10 (fun q=>q)
  have im10:=im9.keep k10
  have x10:g10[g9.size]? = some (.cells [.slice p9 (w.nodes j).log.length c9].toArray 41):=by rw [hg10]; exact get_push_last
  have src:Sl 1 g10 (.slice (some ⟨g9.size,0,none⟩) 1 1) 1 [.slice p9 (w.nodes j).log.length c9]:=⟨_,1,rfl,rfl,fun _=>⟨g9.size,0,rfl,fun i hi=>by
   rw [hc_last x10,nth_eq,Nat.zero_add]; exact List.getElem?_eq_getElem hi⟩⟩
  simp -implicitDefEqProofs (maxSteps:=2000000) only [go_sem,↓reduceIte,b9,e10]
  refine ⟨by rw [hg10]; exact b9.addP b9.size _,?_⟩
  refine append_tag (E:=41) (n:=1) (bytes:=24) (k:=1) tsl25 Tryz.underlying25 tn41 tz41 rfl tb41 O10 K10.dom src rfl (by omega) (by omega) ?_
  intro v11 o11 g11 O11 k11 _
  have k11:Kp (fun u=>u=.log 100) o7 g10 o11 g11:=k11
  obtain ⟨p11,c11,rfl,_⟩:=O11.isSlice
  have B11:=B10.keep k11 (by intro e; cases e)
  have l11:=lt_of_get B11.2
  obtain ⟨g12,hg12⟩:∃ g12:Hp,g12=g11.setIfInBounds kb (.cells (rsM w (j+1) (.slice p11 (j+1) c11) (.slice pt w.told.length ct)).toArray 29):=⟨_,rfl⟩
  have w12:wr1 g11 ⟨kb,6,none⟩ (.slice p11 (j+1) c11)=some g12:=by
   rw [wr1_get B11.2,if_pos ⟨by rw [rsM_len]; omega,rfl⟩,rsM_log,hg12]
  have k12:Kp (fun t=>t=.log 101) o11 g11 o11 g12:=by rw [hg12]; exact (Kp.refl k11.dom (fun t=>t=.log 101)).set B11.1 rfl _
  have B12:BlkAt o11 (.log 101) g12 kb (.cells (rsM w (j+1) (.slice p11 (j+1) c11) (.slice pt w.told.length ct)).toArray 29):=⟨B11.1,by rw [hg12]; exact get_set B11.2⟩
  simp -implicitDefEqProofs (maxSteps:=2000000) only [go_sem,↓reduceIte,f10,w12,l11,f56]
  unfold nLoop
  refine ⟨⟨f2,f10,f54,f55,j+1,o11,.slice p11 (j+1) c11,vs++[.slice p9 (w.nodes j).log.length c9],hlt,rfl,(K10.trans (k11.mono fun t q=>.inl q)).trans (k12.mono fun t q=>.inr q),B12,O11.keep k12 (by intro e; cases e),?_⟩,?_⟩
  ·rw [logsOf_succ]
   refine al2_snoc (al2_mono L8 fun v l q=>⟨((((q.1.keep k9).keep k10).keep k11).keep k12),q.2⟩) ⟨(im10.keep k11).keep k12,lo9⟩
  ·simp only [vi,updo_some,↓reduceIte,f56]; omega
 have hge:¬ (j:Int)<5:=by omega
 obtain rfl:j=5:=by omega
 have bx7:BoxAt o7 g7 h.size (.cells rsZ.toArray 29):=BoxAt.keep (BoxAt.keep (o:=noO) ⟨rfl,rz g2 b2⟩ K4) K7
 have rk:rd g7 ⟨kb,0,none⟩ 13=some (rsM w 5 lv (.slice pt w.told.length ct)):=rd_last B7.2 rfl
 obtain ⟨g8,hg8⟩:∃ g8:Hp,g8=g7.setIfInBounds h.size (.cells (rsM w 5 lv (.slice pt w.told.length ct)).toArray 29):=⟨_,rfl⟩
 have w8:wr g7 ⟨h.size,0,none⟩ (rsM w 5 lv (.slice pt w.told.length ct))=some g8:=by
  obtain ⟨plv,clv,rfl,_⟩:=O7.isSlice
  rw [wr_get bx7.2 0 _,hg8]; rfl
 have l7:=lt_of_get bx7.2
 have r8:rd g8 ⟨h.size,0,none⟩ 13=some (rsM w 5 lv (.slice pt w.told.length ct)):=rd_last (by rw [hg8]; exact get_set bx7.2) rfl
 have K7a:Kp anyT noO h o7 g7:=(kh2.trans K4).trans (kp_all K7)
 have vl:vs.length=5:=by have:=O7.length; omega
 have bound:h.size<g4.size:=Nat.lt_of_lt_of_le (lt_of_get (rz g2 b2)) K4.size
 obtain ⟨oa,Oa⟩:=own_set K7.dom O7 bx7.1 l7 (by intro e; cases e) (.cells (rsM w 5 lv (.slice pt w.told.length ct)).toArray 29)
 obtain ⟨ob,Ob⟩:=own_set K7.dom W7.told bx7.1 l7 (by intro e; cases e) (.cells (rsM w 5 lv (.slice pt w.told.length ct)).toArray 29)
 rw [← hg8] at Oa Ob
 rw [hpt] at Ob
 have res:RsAt g8 (rsM w 5 lv (.slice pt w.told.length ct)) w lv (.slice pt w.told.length ct) vs:=by
  refine ⟨rfl,⟨by rw [encs_self,vl]; exact Oa.sl⟩,?_,⟨Ob.sl⟩⟩
  refine al2_mono (k:=logsOf w 5) L7 fun v l q=>⟨?_⟩
  rw [hg8]
  exact im_set K7.dom q.1 l7 (fun b hb=>by have:=q.2 b hb; omega) _
 rw [show rsM w 5 lv (.slice pt w.told.length ct)=rsC w lv (.slice pt w.told.length ct) from rfl] at rk w8 r8
 unfold rsC at rk w8 r8
 simp -implicitDefEqProofs (maxSteps:=2000000) only [go_sem,↓reduceIte,f55,f56,hge,f2,f10,rk,w8,l7,r8]
 refine ⟨by rw [hg8]; exact (kp_bel K7a).addSet (Nat.le_refl _) _,?_⟩
 unfold RnRes
 rw [hzero,if_pos rfl,← hacs,← hw]
 exact ⟨_,lv,_,vs,rfl,res⟩
structure CmI (C:List Cm) (w v:Wd) (m:Nat):Prop where
 nd:∀ i,i<5→NdI C i (v.nodes i)
 inb:∀ i,i<5→∀ l∈(v.nodes i).inbox,LtrI C l
 fly:v.flying=w.flying
 sum:sum5 (fun i=>(v.nodes i).inbox.length)≤sum5 (fun i=>(w.nodes i).inbox.length)+m
 wait:sum5 (fun i=>(v.nodes i).waiting.length)=sum5 (fun i=>(w.nodes i).waiting.length)
 told:v.told=w.told
 bad:v.bad=w.bad
theorem come_I {C:List Cm} {w:Wd} {l:Ltr} (h1:∀ i,i<5→NdI C i (w.nodes i)) (h2:∀ i,i<5→∀ l∈(w.nodes i).inbox,LtrI C l) (hl:LtrI C l):CmI C w (come w l) 1:=by
 have hto:l.to.toNat<5:=by have:=hl.to; omega
 unfold come
 split
 ·refine ⟨fun i hi=>?_,fun i hi x hx=>?_,rfl,?_,?_,rfl,rfl⟩
  ·unfold Wd.set
   by_cases e:i=l.to.toNat
   ·simp only [if_pos e]
    rw [e]
    exact { h1 _ hto with }
   ·simp only [if_neg e]; exact h1 i hi
  ·unfold Wd.set at hx
   by_cases e:i=l.to.toNat
   ·simp only [if_pos e] at hx
    rcases List.mem_append.1 hx with hx | hx
    ·exact h2 _ hto x hx
    ·have:x=l:=by simpa using hx
     rw [this]; exact hl
   ·simp only [if_neg e] at hx; exact h2 i hi x hx
  ·have:=set_lens w l.to.toNat { w.nodes l.to.toNat with inbox:=(w.nodes l.to.toNat).inbox++[l] } (fun n=>n.inbox.length) hto
   unfold Wd.set
   simp only [List.length_append,List.length_singleton] at this ⊢
   omega
  ·have:=set_lens w l.to.toNat { w.nodes l.to.toNat with inbox:=(w.nodes l.to.toNat).inbox++[l] } (fun n=>n.waiting.length) hto
   unfold Wd.set
   simp only at this ⊢
   omega
 ·exact ⟨h1,h2,rfl,by omega,rfl,rfl,rfl⟩
theorem comes_I {C:List Cm}:∀ (ls:List Ltr) (w:Wd),(∀ i,i<5→NdI C i (w.nodes i))→(∀ i,i<5→∀ l∈(w.nodes i).inbox,LtrI C l)→(∀ l∈ls,LtrI C l)→CmI C w (ls.foldl come w) ls.length:=by
 intro ls
 induction ls with
 | nil=>intro w h1 h2 _; exact ⟨h1,h2,rfl,by simp,rfl,rfl,rfl⟩
 | cons l ls ih=>
  intro w h1 h2 h3
  have a:=come_I h1 h2 (h3 l (by simp))
  have b:=ih (come w l) a.nd a.inb (fun x hx=>h3 x (by simp [hx]))
  refine ⟨b.nd,b.inb,by rw [List.foldl_cons,b.fly,a.fly],?_,by rw [List.foldl_cons,b.wait,a.wait],by rw [List.foldl_cons,b.told,a.told],by rw [List.foldl_cons,b.bad,a.bad]⟩
  have h4:=b.sum
  have h5:=a.sum
  simp only [List.foldl_cons,List.length_cons]
  omega
theorem WI.came {C:List Cm} {k:Nat} {w u v:Wd} {m:Nat} (h:WI C k w) (c:CmI C u v m) (hu1:u.nodes=w.nodes) (hu2:∀ l∈u.flying,l∈w.flying) (hu3:u.told=w.told) (hu4:u.bad=w.bad) (hm:u.flying.length+m≤w.flying.length+1):WI C (k+1) v:=by
 have hs:=c.sum
 have hw:=c.wait
 rw [hu1] at hs hw
 have h1:=h.room
 have h2:=h.wait
 refine ⟨c.nd,c.inb,fun l hl=>h.fly l (hu2 l (by rw [← c.fly]; exact hl)),?_,?_,fun i=>by rw [c.bad,hu4]; have:=h.bad i; omega⟩
 ·rw [c.fly]; omega
 ·rw [c.told,hu3,hw]; omega
theorem pick_I {C:List Cm} {k:Nat} {w:Wd} (h:WI C k w) (at':Nat) (comes stays:Bool):WI C (k+1) (pick w at' comes stays):=by
 unfold pick
 split
 ·exact h.more
 ·rename_i l hl
  have hlm:l∈w.flying:=List.mem_of_getElem? hl
  have hll:=h.fly l hlm
  have el:(w.flying.eraseIdx (at' % w.flying.length)).length+1≤w.flying.length+1:=by
   have:=List.length_eraseIdx_le w.flying (at' % w.flying.length); omega
  have el2:(w.flying.eraseIdx (at' % w.flying.length)).length≤w.flying.length:=by omega
  cases comes with
  | true=>
   cases stays with
   | true=>exact h.came (u:=w) (come_I h.nd h.inb hll) rfl (fun l q=>q) rfl rfl (by omega)
   | false=>exact h.came (u:={ w with flying:=w.flying.eraseIdx (at' % w.flying.length) }) (come_I h.nd h.inb hll) rfl (fun l q=>List.mem_of_mem_eraseIdx q) rfl rfl el
  | false=>
   cases stays with
   | true=>exact h.more
   | false=>exact h.came (u:={ w with flying:=w.flying.eraseIdx (at' % w.flying.length) }) (m:=0) ⟨h.nd,h.inb,rfl,by simp,rfl,rfl,rfl⟩ rfl (fun l q=>List.mem_of_mem_eraseIdx q) rfl rfl (by simp only; omega)
def cmOf (rc:List Nat):Cm:=⟨cmdI ((opnPl rc).drop 22) 0,cmdI ((opnPl rc).drop 22) 1,cmdI ((opnPl rc).drop 22) 2,cmdI ((opnPl rc).drop 22) 3,cmdI ((opnPl rc).drop 22) 4⟩
theorem addQ_len (n:Nd) (x:Cm):(addQ n x).waiting.length≤n.waiting.length+1:=by
 unfold addQ; split
 ·omega
 ·simp
theorem submit_I {C:List Cm} {k:Nat} {w:Wd} (h:WI C k w) {i:Nat} (hi:i<5) {rc:List Nat} (hc:cmOf rc∈C):WI C (k+1) (submit w i rc):=by
 unfold submit
 split
 ·split
  ·refine ⟨h.nd,h.inb,h.fly,Nat.le_trans h.room (Nat.mul_le_mul_right _ (Nat.le_succ k)),Nat.le_trans h.wait (Nat.le_succ k),fun j=>?_⟩
   have h1:=h.bad j
   have h2:=h.bad i
   simp only
   split <;> omega
  ·rename_i q
   have e:opnCm rc (w.nodes i).log.length=cmOf rc:=by
    unfold opnCm cmOf
    rw [if_pos (by simpa using q)]
   rw [e]
   split
   ·have hw:=h.wait
    refine ⟨h.nd,h.inb,h.fly,Nat.le_trans h.room (Nat.mul_le_mul_right _ (Nat.le_succ k)),by simp only [List.length_append,List.length_singleton]; omega,fun j=>by have:=h.bad j; simp only; omega⟩
   ·rw [set_out]
    have ha:=add_I (h.nd i hi) hc
    have s1:(add (w.nodes i) (cmOf rc)).inbox=(w.nodes i).inbox:=by unfold add; split <;> rfl
    have s2:(addQ (add (w.nodes i) (cmOf rc)) (cmOf rc)).inbox=(w.nodes i).inbox:=by unfold addQ; split <;> exact s1
    have s3:=addQ_len (add (w.nodes i) (cmOf rc)) (cmOf rc)
    have s4:=(add_same (w.nodes i) (cmOf rc)).1
    refine h.out hi ?_ (fun l hl=>by cases hl) (by simp only [s2]; exact h.inb i hi) (by simp only [s2]; simp) (by simp only [List.length_nil]; rw [s4] at s3; omega)
    unfold addQ
    simp only
    split
    ·exact ha
    ·exact { ha with }
 ·exact h.more
theorem act_I {C:List Cm} (hC:C.length≤100000) {k:Nat} {w:Wd} (h:WI C k w) (a:Ac) (hi:a.node<5) (hc:cmOf a.data∈C):WI C (k+1) (act w a):=by
 have hn:=h.nd a.node hi
 have hb:=h.inb a.node hi
 unfold act
 split
 ·exact submit_I h hi hc
 split
 ·obtain ⟨l1,l2,l3⟩:=lead_I hn
  rw [set_out]
  exact h.out hi l1 (fun l hl=>by cases hl) (by simp only [l2]; exact hb) (by simp only [l2]; simp) (by simp only [l3]; simp)
 split
 ·obtain ⟨s1,s2,s3,s4,s5⟩:=step_I hi hC hn hb
  exact h.out hi s1 s2 s3 (by omega) (by omega)
 split
 ·exact pick_I h _ _ _
 split
 ·have c:=comes_I w.flying { w with flying:=[] } h.nd h.inb h.fly
  exact h.came c rfl (fun l hl=>by cases hl) rfl rfl (by simp)
 split
 ·obtain ⟨c1,c2⟩:=crashed_I hn a.keep
  rw [set_out]
  rcases c2 with ⟨c2,c3⟩ | c2
  ·exact h.out hi c1 (fun l hl=>by cases hl) (by simp only [c2]; intro l hl; cases hl) (by simp only [c2]; simp) (by simp only [c3]; simp)
  ·exact h.out hi c1 (fun l hl=>by cases hl) (by simp only [c2]; exact hb) (by simp only [c2]; simp) (by simp only [c2]; simp)
 ·obtain ⟨c1,c2⟩:=started_I hn
  rw [set_out]
  rcases c2 with ⟨c2,c3⟩ | c2
  ·exact h.out hi c1 (fun l hl=>by cases hl) (by simp only [c2]; intro l hl; cases hl) (by simp only [c2]; simp) (by simp only [c3]; simp)
  ·exact h.out hi c1 (fun l hl=>by cases hl) (by simp only [c2]; exact hb) (by simp only [c2]; simp) (by simp only [c2]; simp)
theorem world0_I (C:List Cm):WI C 0 world0:=by
 refine ⟨fun i hi=>blank_I (by simp) AcI.zero,(fun i hi l hl=>by cases hl),(fun l hl=>by cases hl),by simp [world0,sum5,blank],by simp [world0,sum5,blank],fun i=>by simp [world0]⟩
theorem runW_I {C:List Cm} (hC:C.length≤100000):∀ (l:List Ac) (k:Nat) (w:Wd),WI C k w→(∀ a∈l,a.node<5∧cmOf a.data∈C)→WI C (k+l.length) (l.foldl act w):=by
 intro l
 induction l with
 | nil=>intro k w h _; exact h
 | cons a l ih=>
  intro k w h hl
  have:=ih (k+1) (act w a) (act_I hC h a (hl a (by simp)).1 (hl a (by simp)).2) (fun x hx=>hl x (by simp [hx]))
  rw [List.length_cons,show k+(l.length+1)=k+1+l.length by omega]
  exact this
theorem run_inv (xs:List (Raw × Value)) (hz:∀ x∈raws xs,x.err=0) (hl:xs.length≤100000) (j:Nat) (hj:j≤xs.length):WOk (runW (((raws xs).take j).map Raw.ac)):=by
 obtain ⟨C,hC⟩:∃ C,C=(raws xs).map fun x=>cmOf x.data:=⟨_,rfl⟩
 have rl:(raws xs).length=xs.length:=by unfold raws; simp
 have hCl:C.length≤100000:=by rw [hC,List.length_map,rl]; exact hl
 have:=runW_I hCl (((raws xs).take j).map Raw.ac) 0 world0 (world0_I C) (fun a ha=>by
  obtain ⟨x,hx,rfl⟩:=List.mem_map.1 ha
  have hx:=List.mem_of_mem_take hx
  obtain ⟨_,h2,_,_,_⟩:=raw_ok (hz x hx)
  refine ⟨by unfold Raw.ac; simp only; omega,?_⟩
  rw [hC]
  exact List.mem_map.2 ⟨x,hx,rfl⟩)
 refine this.ok hCl ?_
 rw [List.length_map,List.length_take]
 omega
theorem runs_ok (T:World) (h:Hp) (v:Value) (xs:List (Raw × Value)) (hv:Ts rawC 5 h v xs) (hx:∀ x∈xs,ImB noO h x.2 x.1.data) (tb:Tbs noO h) (hxl:xs.length≤4611686018427387904) :
  CallsH Tryz.prog T 6 #[v] h fun v' h'=>Bel h.size h h'∧RnRes h' v' (raws xs):=
 mrun_ok T h v xs hv hx tb hxl fun h1 h2 j hj=>run_inv xs h1 h2 j hj
theorem scriptFault_ok (T:World) (h:Hp) (v:Value) (xs:List (Raw × Value)) (hv:Ts rawC 5 h v xs) (hx:∀ x∈xs,∃ p c,x.2=.slice p x.1.data.length c) (hxl:xs.length≤4611686018427387904) :
  CallsH Tryz.prog T 7 #[v] h fun v' h'=>v'=.int .i64 (runErr (raws xs))∧Bel h.size h h':=by
 obtain ⟨p,c,rfl,hcs⟩:=raws_open hv
 refine CallsH.of_code' (args:=[_]) Tryz.func7 rfl rfl rfl rfl ?_
 have rl:(raws xs).length=xs.length:=by unfold raws; simp
 have raw_at:∀ i (hi:i<xs.length),(raws xs)[i]'(by rw [rl]; exact hi)=xs[i].1:=fun i hi=>by unfold raws; simp
 by_cases hbig:100000<xs.length
 ·have hbig':(xs.length:Int) > 100000:=by omega
  have e2:runErr (raws xs)=1:=by unfold runErr; rw [rl,if_pos hbig]
  rw [e2]
  simp -implicitDefEqProofs (maxSteps:=2000000) only [go_sem,↓reduceIte,hbig']
  try exact Bel.refl _ _
 have hbig':¬ (xs.length:Int) > 100000:=by omega
 have e2:runErr (raws xs)=scriptErr (raws xs):=by unfold runErr; rw [rl,if_neg hbig]
 rw [e2]
 simp -implicitDefEqProofs (maxSteps:=2000000) only [go_sem,↓reduceIte,hbig']
 refine VS.loop' (fun F g=>F 0=.slice p xs.length c∧Bel h.size h g∧∃ j:Nat,j≤xs.length∧F 3=.int .i64 j∧∀ x∈(raws xs).take j,x.err=0)
  (fun F _=>xs.length - (vi (F 3)).toNat) rfl ⟨rfl,Bel.refl _ _,0,Nat.zero_le _,rfl,fun x hx=>by simp at hx⟩ ?_
 rintro F2 g2 ⟨f0,b2,j,hj,f3,hz⟩
 by_cases hlt:j<xs.length
 ·have hlt':(j:Int)<xs.length:=by omega
  obtain ⟨bb,oo,rfl,hbb,hrd⟩:=hcs (by intro e; rw [e] at hlt; simp at hlt)
  obtain ⟨x,hx0⟩:∃ x,x=xs[j]:=⟨_,rfl⟩
  have hxm:x∈xs:=by rw [hx0]; exact List.getElem_mem hlt
  obtain ⟨pd,cd,hpd⟩:=hx x hxm
  have r1:rd g2 ⟨bb,oo+j*5,none⟩ 5=some (rawC x):=by rw [rd_bel b2 hbb,hx0]; exact hrd j hlt
  unfold rawC acC at r1
  rw [hpd] at r1
  have ck:=actFault_ok T g2 x.1.k x.1.n x.1.a x.1.b pd x.1.data.length cd
  unfold actC at ck
  simp -implicitDefEqProofs (maxSteps:=2000000) only [go_sem,↓reduceIte,f0,f3,hlt',r1]
  refine ck.use ?_
  rintro _ g4 ⟨rfl,b4⟩
  have B4:Bel h.size h g4:=b2.trans (b4.mono b2.size)
  have exr:x.1.err=actErr x.1.k x.1.n x.1.a x.1.b x.1.data.length:=rfl
  rw [← exr]
  by_cases hex:x.1.err=0
  ·simp -implicitDefEqProofs (maxSteps:=2000000) only [go_sem,↓reduceIte,hex,f3]
   unfold nLoop
   refine ⟨⟨f0,B4,j+1,hlt,rfl,fun y hy=>?_⟩,?_⟩
   ·rw [take_snoc _ j (by rw [rl]; exact hlt),List.mem_append] at hy
    rcases hy with hy | hy
    ·exact hz y hy
    ·rw [raw_at j hlt,← hx0] at hy
     have:y=x.1:=by simpa using hy
     rw [this]; exact hex
   ·simp only [vi,updo_some,↓reduceIte,f3]; omega
  ·have:scriptErr (raws xs)=x.1.err:=by
    have:=scriptErr_take (l:=raws xs) (j:=j) (by rw [rl]; exact hlt) hz (by rw [raw_at j hlt,← hx0]; exact hex)
    rw [this,raw_at j hlt,← hx0]
   simp -implicitDefEqProofs (maxSteps:=2000000) only [go_sem,↓reduceIte,hex]
   exact ⟨by rw [this],B4⟩
 have hge:¬ (j:Int)<xs.length:=by omega
 obtain rfl:j=xs.length:=by omega
 have hall:∀ x∈raws xs,x.err=0:=fun x hx=>hz x (by rw [List.take_of_length_le (by omega)]; exact hx)
 have hzero:scriptErr (raws xs)=0:=scriptErr_zero hall
 rw [hzero]
 simp -implicitDefEqProofs (maxSteps:=2000000) only [go_sem,↓reduceIte,f0,f3,hge]
 exact b2
theorem rawsv_open {h:Hp} {v:Value} {l:List (Raw × Value)} (s:Ts rawC 5 h v l):∃ p c,v=.slice p l.length c:=by
 obtain ⟨p,c,h,_⟩:=raws_open s; exact ⟨p,c,h⟩
set_option maxHeartbeats 4000000 in
theorem wacts_ok (T:World) (h:Hp) (v:Value) (xs:List (Raw × Value)) (hv:Ts rawC 5 h v xs) (hx:∀ x∈xs,Bs h x.2 x.1.data) (hxl:xs.length≤2513169434916) (hdl:∀ x∈xs,x.1.data.length≤140737488355328) :
  CallsH Tryz.prog T 5 #[v] h fun v' h'=>Bel h.size h h'∧∃ ys,raws ys=raws xs∧Ts rawC 5 h' v' ys∧∀ y∈ys,ImB noO h' y.2 y.1.data:=by
 obtain ⟨p,c,rfl,hcs⟩:=raws_open hv
 refine CallsH.of_code' (args:=[_]) Tryz.func5 rfl rfl rfl rfl ?_
 simp -implicitDefEqProofs (maxSteps:=2000000) only [go_sem,↓reduceIte]
 refine VS.loop' (fun F g=>F 0=.slice p xs.length c∧∃ (j:Nat) (o:Ow) (ys:List (Raw × Value)),j≤xs.length∧F 4=.int .i64 j∧Kp (fun t=>t=.log 100) noO h o g∧raws ys=(raws xs).take j∧OwnT o (.log 100) 46 5 g (F 3) ys.length (encs rawC ys)∧∀ y∈ys,ImB o g y.2 y.1.data)
  (fun F _=>xs.length - (vi (F 4)).toNat) rfl ⟨rfl,0,noO,[],Nat.zero_le _,rfl,Kp.refl (dom_no h) _,rfl,OwnT.nil _ _ _ _ _,fun y hy=>by cases hy⟩ ?_
 rintro F2 g2 ⟨f0,j,o2,ys,hj,f4,K2,hr,O2,I2⟩
 have yl:ys.length=j:=by
  have:=congrArg List.length hr
  unfold raws at this
  simp only [List.length_map,List.length_take] at this
  omega
 obtain ⟨p3,c3,f3,_⟩:=O2.isSlice
 by_cases hlt:j<xs.length
 ·have hlt':(j:Int)<xs.length:=by omega
  obtain ⟨bb,oo,rfl,hbb,hrd⟩:=hcs (by intro e; rw [e] at hlt; simp at hlt)
  obtain ⟨x,hx0⟩:∃ x,x=xs[j]:=⟨_,rfl⟩
  have hxm:x∈xs:=by rw [hx0]; exact List.getElem_mem hlt
  have iv:=(hx x hxm).bel (kp_bel K2)
  obtain ⟨pd,cd,hpd,_⟩:=iv.open
  have r1:rd g2 ⟨bb,oo+j*5,none⟩ 5=some (rawC x):=by rw [rd_bel (kp_bel K2) hbb,hx0]; exact hrd j hlt
  unfold rawC acC at r1
  rw [hpd] at r1 iv
  obtain ⟨g3,hg3⟩:∃ g3:Hp,g3=g2.push (.cells (acC x.1.k x.1.n x.1.a x.1.b (.slice pd x.1.data.length cd)).toArray 46):=⟨_,rfl⟩
  have e3:=hg3.symm
  have k3:Kp noT o2 g2 o2 g3:=by rw [hg3]; exact kp_push K2.dom _
  have y3:g3[g2.size]? = some (.cells (acC x.1.k x.1.n x.1.a x.1.b (.slice pd x.1.data.length cd)).toArray 46):=by rw [hg3]; exact get_push_last
  have r4:hc g3 ⟨g2.size,4,none⟩=some (.slice pd x.1.data.length cd):=hc_last y3
  unfold acC at e3
  have co:=octets_ok T g3 (.slice pd x.1.data.length cd) x.1.data (iv.bel (by rw [hg3]; exact Bel.push (Nat.le_refl _) _)) (hdl x hxm)
  simp -implicitDefEqProofs (maxSteps:=2000000) only [go_sem,↓reduceIte,f0,f4,hlt',r1,e3,r4]
  refine co.use ?_
  rintro v4 g4 ⟨o4,b4⟩
  obtain ⟨p4,c4,rfl,_⟩:=o4.bs.open
  have k4:Kp noT o2 g3 o2 g4:=kp_still k3.dom b4
  have y4:=b4.get (lt_of_get y3) y3
  have l4:=lt_of_get y4
  have im4:ImB o2 g4 (.slice p4 x.1.data.length c4) x.1.data:=⟨Im.of_own o4.own (fun b hb=>k3.dom b hb),o4.byte⟩
  obtain ⟨g5,hg5⟩:∃ g5:Hp,g5=g4.setIfInBounds g2.size (.cells (acC x.1.k x.1.n x.1.a x.1.b (.slice p4 x.1.data.length c4)).toArray 46):=⟨_,rfl⟩
  have w5:wr1 g4 ⟨g2.size,4,none⟩ (.slice p4 x.1.data.length c4)=some g5:=by rw [wr1_get y4 4 _,hg5]; rfl
  have y5:g5[g2.size]? = some (.cells (acC x.1.k x.1.n x.1.a x.1.b (.slice p4 x.1.data.length c4)).toArray 46):=by rw [hg5]; exact get_set y4
  have K5:Kp noT o2 g2 o2 g5:=by rw [hg5]; exact (k3.trans k4).setNew (Nat.le_refl _) _
  have im5:ImB o2 g5 (.slice p4 x.1.data.length c4) x.1.data:=by
   rw [hg5]
   refine crashed_set k4.dom im4 l4 (fun b hb=>?_) _
   have h1:=o4.own.blk b hb
   have h2:g3.size=g2.size+1:=by rw [hg3]; simp
   omega
  have r5:rd g5 ⟨g2.size,0,none⟩ 5=some (acC x.1.k x.1.n x.1.a x.1.b (.slice p4 x.1.data.length c4)):=rd_last y5 rfl
  obtain ⟨g6,hg6⟩:∃ g6:Hp,g6=g5.push (.cells (acC x.1.k x.1.n x.1.a x.1.b (.slice p4 x.1.data.length c4)).toArray 46):=⟨_,rfl⟩
  have e6:=hg6.symm
  have k6:Kp noT o2 g5 o2 g6:=by rw [hg6]; exact kp_push K5.dom _
  have x6:g6[g5.size]? = some (.cells (acC x.1.k x.1.n x.1.a x.1.b (.slice p4 x.1.data.length c4)).toArray 46):=by rw [hg6]; exact get_push_last
  have src:Sl 5 g6 (.slice (some ⟨g5.size,0,none⟩) 1 1) 1 (acC x.1.k x.1.n x.1.a x.1.b (.slice p4 x.1.data.length c4)):=⟨_,1,rfl,rfl,fun _=>⟨g5.size,0,rfl,fun i hi=>by
   rw [hc_last x6,nth_eq,Nat.zero_add]; exact List.getElem?_eq_getElem hi⟩⟩
  have O6:=(O2.keep K5 (fun q=>q)).keep k6 (fun q=>q)
  rw [f3] at O6
  unfold acC at r5 e6
  simp -implicitDefEqProofs (maxSteps:=2000000) only [go_sem,↓reduceIte,w5,l4,r5,e6,f3]
  refine append_tag (E:=46) (n:=5) (bytes:=56) (k:=1) tsl22 Tryz.underlying22 tn46 tz46 rfl tb46 O6 k6.dom src rfl (by omega) (by omega) ?_
  intro v7 o7 g7 O7 k7 _
  have k7:Kp (fun u=>u=.log 100) o2 g6 o7 g7:=k7
  simp -implicitDefEqProofs (maxSteps:=2000000) only [go_sem,↓reduceIte,f4]
  unfold nLoop
  refine ⟨⟨f0,j+1,o7,ys++[(x.1,.slice p4 x.1.data.length c4)],hlt,rfl,((K2.trans (kp_any K5)).trans (kp_any k6)).trans k7,?_,?_,fun y hy=>?_⟩,?_⟩
  ·rw [take_snoc _ j (by unfold raws; simpa using hlt),← hr]
   unfold raws
   simp only [List.map_append,List.map_cons,List.map_nil,List.getElem_map,← hx0]
  ·have e:encs rawC (ys++[(x.1,.slice p4 x.1.data.length c4)])=encs rawC ys++acC x.1.k x.1.n x.1.a x.1.b (.slice p4 x.1.data.length c4):=by rw [encs_append,encs_one]; rfl
   rw [e,List.length_append]
   exact O7
  ·rcases List.mem_append.1 hy with hy | hy
   ·exact (((I2 y hy).keep K5).keep k6).keep k7
   ·have:y=(x.1,.slice p4 x.1.data.length c4):=by simpa using hy
    rw [this]
    exact (im5.keep k6).keep k7
  ·simp only [vi,updo_some,↓reduceIte,f4]; omega
 have hge:¬ (j:Int)<xs.length:=by omega
 obtain rfl:j=xs.length:=by omega
 rw [List.take_of_length_le (by unfold raws; simp)] at hr
 simp -implicitDefEqProofs (maxSteps:=2000000) only [go_sem,↓reduceIte,f0,f4,hge]
 exact ⟨kp_bel K2,ys,hr,⟨O2.sl⟩,fun y hy=>⟨⟨(I2 y hy).1.sl,(I2 y hy).1.fits,fun b hb=>⟨((I2 y hy).1.free b hb).1,rfl⟩⟩,(I2 y hy).2⟩⟩
theorem sameActs_ok (T:World) (h:Hp) (u v:Value) (xs ys:List (Raw × Value)) (hu:Ts rawC 5 h u xs) (hv:Ts rawC 5 h v ys) (he:raws xs=raws ys) (hx:∀ x∈xs,Bs h x.2 x.1.data) (hy:∀ y∈ys,Bs h y.2 y.1.data) (hxl:xs.length≤2513169434916) :
  CallsH Tryz.prog T 8 #[u,v] h fun v' h'=>v'=.bool true∧Bel h.size h h':=by
 obtain ⟨p,c,rfl,hcs⟩:=hu.open rawC_len (by decide)
 obtain ⟨q,d,rfl,hds⟩:=hv.open rawC_len (by decide)
 have hl:xs.length=ys.length:=by
  have:=congrArg List.length he
  unfold raws at this
  simpa using this
 refine CallsH.of_code' (args:=[_,_]) Tryz.func8 rfl rfl rfl rfl ?_
 rw [← hl]
 simp -implicitDefEqProofs (maxSteps:=2000000) only [go_sem,↓reduceIte]
 refine VS.loop' (fun F g=>F 0=.slice p xs.length c∧F 1=.slice q xs.length d∧Bel h.size h g∧∃ j:Nat,j≤xs.length∧F 5=.int .i64 j)
  (fun F _=>xs.length - (vi (F 5)).toNat) rfl ⟨rfl,rfl,Bel.refl _ _,0,Nat.zero_le _,rfl⟩ ?_
 rintro F2 g2 ⟨f0,f1,b2,j,hj,f5⟩
 by_cases hlt:j<xs.length
 ·have hlt':(j:Int)<xs.length:=by omega
  obtain ⟨bb,oo,rfl,hbb,hrd⟩:=hcs (by intro e; rw [e] at hlt; simp at hlt)
  obtain ⟨b3,o3,rfl,hb3,hrd3⟩:=hds (by intro e; rw [hl,e] at hlt; simp at hlt)
  obtain ⟨x,hx0⟩:∃ x,x=xs[j]:=⟨_,rfl⟩
  obtain ⟨y,hy0⟩:∃ y,y=ys[j]'(by omega):=⟨_,rfl⟩
  have hxm:x∈xs:=by rw [hx0]; exact List.getElem_mem hlt
  have hym:y∈ys:=by rw [hy0]; exact List.getElem_mem _
  have exy:x.1=y.1:=by
   have h1:(raws xs)[j]? = some x.1:=by unfold raws; rw [List.getElem?_map,List.getElem?_eq_getElem hlt,← hx0]; rfl
   have h2:(raws ys)[j]? = some y.1:=by unfold raws; rw [List.getElem?_map,List.getElem?_eq_getElem (by omega),← hy0]; rfl
   rw [he,h2] at h1
   exact (Option.some.inj h1).symm
  have ivx:=hx x hxm
  have ivy:=hy y hym
  obtain ⟨px,cx,hpx,_⟩:=ivx.open
  obtain ⟨py,cy,hpy,_⟩:=ivy.open
  rw [← exy] at ivy hpy
  rw [hpx] at ivx
  rw [hpy] at ivy
  have c1:cellsAt g2 bb (oo+j*5) (rawC x):=by rw [hx0]; exact (hrd j hlt).bel b2 hbb
  have c2:cellsAt g2 b3 (o3+j*5) (rawC y):=by rw [hy0]; exact (hrd3 j (by omega)).bel b2 hb3
  have a0:hc g2 ⟨bb,oo+j*5,none⟩=some (.int .i64 x.1.k):=c1.hc (i:=0) rfl
  have a1:hc g2 ⟨bb,oo+j*5+1,none⟩=some (.int .i64 x.1.n):=c1.hc (i:=1) rfl
  have a2:hc g2 ⟨bb,oo+j*5+2,none⟩=some (.int .i64 x.1.a):=c1.hc (i:=2) rfl
  have a3:hc g2 ⟨bb,oo+j*5+3,none⟩=some (.int .i64 x.1.b):=c1.hc (i:=3) rfl
  have a4:hc g2 ⟨bb,oo+j*5+4,none⟩=some (.slice px x.1.data.length cx):=by rw [← hpx]; exact c1.hc (i:=4) rfl
  have d0:hc g2 ⟨b3,o3+j*5,none⟩=some (.int .i64 x.1.k):=by rw [exy]; exact c2.hc (i:=0) rfl
  have d1:hc g2 ⟨b3,o3+j*5+1,none⟩=some (.int .i64 x.1.n):=by rw [exy]; exact c2.hc (i:=1) rfl
  have d2:hc g2 ⟨b3,o3+j*5+2,none⟩=some (.int .i64 x.1.a):=by rw [exy]; exact c2.hc (i:=2) rfl
  have d3:hc g2 ⟨b3,o3+j*5+3,none⟩=some (.int .i64 x.1.b):=by rw [exy]; exact c2.hc (i:=3) rfl
  have d4:hc g2 ⟨b3,o3+j*5+4,none⟩=some (.slice py x.1.data.length cy):=by rw [← hpy]; exact c2.hc (i:=4) rfl
  have hbg:bb<g2.size:=Nat.lt_of_lt_of_le hbb b2.size
  have hbg3:b3<g2.size:=Nat.lt_of_lt_of_le hb3 b2.size
  have sb:=sameBytes_ok T g2 (.slice px x.1.data.length cx) (.slice py x.1.data.length cy) x.1.data x.1.data (ivx.bel b2) (ivy.bel b2)
  simp -implicitDefEqProofs (maxSteps:=2000000) only [go_sem,↓reduceIte,f0,f1,f5,hlt']
  refine VS.mono (N:=fun F' g'=>Bel h.size h g'∧F' 0=.slice (some ⟨bb,oo,none⟩) xs.length c∧F' 1=.slice (some ⟨b3,o3,none⟩) xs.length d∧F' 5=.int .i64 j∧F' 80=.bool false) ?_ ?_ (fun _ _ _ h=>h) (fun _ _ h=>h)
  ·refine VS.z (g2.size) [61] (.p 0 (.p 1 (.p 2 (.p 3 (.q 4 (.p 5 (.p 6 (.p 7 (.p 8 (.q 9 (.p 10 (.p 11 (.p 12 (.p 13 (.p 14 (.p 15 (.q 16 (.p 17 (.p 18 (.p 19 (.p 20 (.q 21 (.p 22 (.p 23 (.p 24 (.p 25 (.p 26 (.p 27 (.p 28 (.q 29 (.p 30 (.p 31 (.p 32 (.p 33 (.q 34 (.p 35 (.p 36 (.p 37 (.p 38 (.p 39 (.p 40 (.p 41 (.q 42 (.p 43 (.p 44 (.p 45 (.p 46 (.q 47 (.p 48 (.p 49 (.p 50 (.p 51 (.p 52 (.p 53 (.p 54 (.q 55 (.p 56 (.p 57 (.p 58 (.p 59 (.q 60 (.w 61 (.p 62 (.p 63 .nil)))))))))))))))))))))))))))))))))))))))))))))))))))))))))))))))) mixed (by kernel_rfl) ?_
   simp -implicitDefEqProofs (maxSteps:=2000000) only [go_sem,↓reduceIte,f0,f1,f5,hlt',a0,a1,a2,a3,a4,d0,d1,d2,d3,d4,hbg,hbg3]
   refine sb.use ?_
   rintro _ g3 ⟨rfl,hg⟩
   rw [hg]
   simp -implicitDefEqProofs (maxSteps:=2000000) only [go_sem,↓reduceIte]
   first
    | exact b2
    | exact ⟨b2,f0,f1,f5⟩
    | exact ⟨b2,f0,f1⟩
    | exact ⟨Bel.refl _ _,b2,f0,f1,f5⟩
    | exact ⟨Bel.refl _ _,b2⟩
  rintro F3 g3 ⟨b3',f0,f1,f5,f80⟩
  simp -implicitDefEqProofs (maxSteps:=2000000) only [go_sem,↓reduceIte,f80,f5]
  unfold nLoop
  refine ⟨⟨f0,f1,b3',j+1,hlt,rfl⟩,?_⟩
  simp only [vi,updo_some,↓reduceIte,f5]; omega
 have hge:¬ (j:Int)<xs.length:=by omega
 simp -implicitDefEqProofs (maxSteps:=2000000) only [go_sem,↓reduceIte,f0,f5,hge]
 exact b2
theorem refuses_ok (T:World) (h:Hp) (v:Value) (xs:List (Raw × Value)) (hv:Ts rawC 5 h v xs) (hx:∀ x∈xs,Bs h x.2 x.1.data) (hxl:xs.length≤2513169434916) (hdl:∀ x∈xs,x.1.data.length≤140737488355328) (tb:Tbs noO h) :
  CallsH Tryz.prog T 3 #[v] h fun v' h'=>v'=.bool true∧Bel h.size h h':=by
 obtain ⟨p,c,hpv⟩:=rawsv_open hv
 subst hpv
 refine CallsH.of_code' (args:=[_]) Tryz.func3 rfl rfl rfl rfl ?_
 simp -implicitDefEqProofs (maxSteps:=2000000) only [go_sem,↓reduceIte]
 refine (wacts_ok T h _ xs hv hx hxl hdl).use ?_
 rintro v1 h1 ⟨b1,ys,hr,t1,i1⟩
 have yl:ys.length=xs.length:=by
  have:=congrArg List.length hr
  unfold raws at this
  simpa using this
 have k1:Kp noT noO h noO h1:=kp_still (dom_no h) b1
 have tb1:=tb.keep k1
 simp -implicitDefEqProofs (maxSteps:=2000000) only [go_sem,↓reduceIte]
 refine (runs_ok T h1 v1 ys t1 i1 tb1 (by omega)).use ?_
 rintro v2 h2 ⟨b2,r2⟩
 rw [hr] at r2
 have B2:Bel h.size h h2:=b1.trans (b2.mono b1.size)
 obtain ⟨E,hE⟩:∃ E,E=runErr (raws xs):=⟨_,rfl⟩
 have hx':∀ x∈xs,∃ p c,x.2=.slice p x.1.data.length c:=fun x hxm=>by
  obtain ⟨p,c,e,_⟩:=(hx x hxm).open
  exact ⟨p,c,e⟩
 obtain ⟨p1,c1,hp1⟩:=rawsv_open t1
 subst hp1
 obtain ⟨R,hv2,hRl⟩:∃ R:List Value,v2=.tuple #[.agg R.toArray,.int .i64 E]∧(∃ a b1 b2 b3 b4 b5 l m1 m2 m3 m4 m5 t,R=[.int .i64 a,.bool b1,.bool b2,.bool b3,.bool b4,.bool b5,l,.int .i64 m1,.int .i64 m2,.int .i64 m3,.int .i64 m4,.int .i64 m5,t]∧(∃ pl nl cl,l=.slice pl nl cl∧(E≠0→nl=0))∧(∃ pt nt ct,t=.slice pt nt ct∧(E≠0→nt=0))∧(E≠0→a=0)):=by
  unfold RnRes at r2
  rw [← hE] at r2
  split at r2
  ·rename_i q
   obtain ⟨R,lv,tv,vs,rfl,ra⟩:=r2
   refine ⟨R,by rw [q],?_⟩
   rw [ra.cells]
   obtain ⟨pl,cl,h3,_⟩:=ra.logs.open (n:=1) (enc:=fun v=>[v]) (fun _=>rfl) (show (1:Nat)≠0 by decide)
   obtain ⟨pt,ct,h4,_⟩:=ra.told.open (n:=5) (enc:=tldC) (fun _=>rfl) (show (5:Nat)≠0 by decide)
   exact ⟨_,_,_,_,_,_,_,_,_,_,_,_,_,rfl,⟨pl,_,cl,h3,fun e=>(e q).elim⟩,⟨pt,_,ct,h4,fun e=>(e q).elim⟩,fun e=>(e q).elim⟩
  ·exact ⟨rsZ,r2,_,_,_,_,_,_,_,_,_,_,_,_,_,rfl,⟨none,0,0,rfl,fun _=>rfl⟩,⟨none,0,0,rfl,fun _=>rfl⟩,fun _=>rfl⟩
 obtain ⟨a,e1,e2,e3,e4,e5,l,m1,m2,m3,m4,m5,t,rfl,⟨pl,nl,cl,rfl,hl0⟩,⟨pt,nt,ct,rfl,ht0⟩,ha0⟩:=hRl
 subst hv2
 obtain ⟨g3,hg3⟩:∃ g3:Hp,g3=h2.push (.cells [.int .i64 a,.bool e1,.bool e2,.bool e3,.bool e4,.bool e5,.slice pl nl cl,.int .i64 m1,.int .i64 m2,.int .i64 m3,.int .i64 m4,.int .i64 m5,.slice pt nt ct].toArray 29):=⟨_,rfl⟩
 have e3':=hg3.symm
 have B3:Bel h.size h g3:=by rw [hg3]; exact B2.addP B2.size _
 have y3:g3[h2.size]? = some (.cells [.int .i64 a,.bool e1,.bool e2,.bool e3,.bool e4,.bool e5,.slice pl nl cl,.int .i64 m1,.int .i64 m2,.int .i64 m3,.int .i64 m4,.int .i64 m5,.slice pt nt ct].toArray 29):=by rw [hg3]; exact get_push_last
 have k3:Kp noT noO h noO g3:=kp_still (dom_no h) B3
 simp -implicitDefEqProofs (maxSteps:=2000000) only [go_sem,↓reduceIte,e3']
 refine (scriptFault_ok T g3 _ xs (hv.bel B3) hx' (by omega)).use ?_
 rintro _ g4 ⟨rfl,b4⟩
 rw [← hE]
 have B4:Bel h.size h g4:=B3.trans (b4.mono B3.size)
 have y4:=b4.get (lt_of_get y3) y3
 have r0:hc g4 ⟨h2.size,0,none⟩=some (.int .i64 a):=hc_last y4
 have r6:hc g4 ⟨h2.size,6,none⟩=some (.slice pl nl cl):=hc_last y4
 have r12:hc g4 ⟨h2.size,12,none⟩=some (.slice pt nt ct):=hc_last y4
 have b23:Bel h2.size h2 g3:=by rw [hg3]; exact Bel.push (Nat.le_refl _) _
 have b24:Bel h2.size h2 g4:=b23.trans (b4.mono b23.size)
 have b14:Bel h1.size h1 g4:=b2.trans (b24.mono b2.size)
 have k14:Kp noT noO h1 noO g4:=kp_still (dom_no h1) b14
 have k4:Kp noT noO h noO g4:=kp_still (dom_no h) B4
 have cs:=sameActs_ok T g4 (.slice p1 ys.length c1) (.slice p xs.length c) ys xs (t1.bel b14) (hv.bel B4) hr (fun y hy=>((i1 y hy).keep k14).bs) (fun x hxm=>(hx x hxm).bel B4) (by omega)
 by_cases hz:E=0
 ·simp -implicitDefEqProofs (maxSteps:=2000000) only [go_sem,↓reduceIte,hz]
  refine cs.use ?_
  rintro _ g5 ⟨rfl,b5⟩
  simp -implicitDefEqProofs (maxSteps:=2000000) only [go_sem,↓reduceIte]
  exact B4.trans (b5.mono B4.size)
 ·have q1:=hl0 hz
  have q2:=ht0 hz
  have q3:=ha0 hz
  subst q1
  subst q2
  subst q3
  simp -implicitDefEqProofs (maxSteps:=2000000) only [go_sem,↓reduceIte,hz,r0,r6,r12]
  refine cs.use ?_
  rintro _ g5 ⟨rfl,b5⟩
  simp -implicitDefEqProofs (maxSteps:=2000000) only [go_sem,↓reduceIte]
  exact B4.trans (b5.mono B4.size)
def TkM (h:Hp):Prop:=Tk h∧Tab 0 niv needN h
theorem bothTabM {W:World} (h:laidMetH Tryz.prog [("conclave/sha.numbers", Rows.laid_conclave_sha_numbers),("conclave/order.need", Rows.laid_conclave_order_need)] W):TkM W.heap:=by
 constructor
 ·have h1:=h.filter (fun x=>x.1 == "conclave/sha.numbers")
  exact shaTab h1
 ·have h1:=h.filter (fun x=>x.1 == "conclave/order.need")
  exact needTab h1
theorem doorBothM (os:Os) (args:Array Value):laidMetH Tryz.prog [("conclave/sha.numbers", Rows.laid_conclave_sha_numbers),("conclave/order.need", Rows.laid_conclave_order_need)] ((World.doorLaid Tryz.prog 87 os).forCall (fun _ _=>0) ⟨#[],args,[]⟩).memory:=
 laidMetH_of_parts3 (fuel:=8) (laidMet_of_run' 8 (by kernel_rfl) (by kernel_rfl)) (by kernel_rfl) (by kernel_rfl)
theorem mootRefuses_ok:LawOkL Tryz.prog TkM 3 Tryz.f3.params.toList:=by
 intro T args tkn hfit
 obtain ⟨tk,tn⟩:=tkn
 rw [show Tryz.f3.params.toList=[22] from rfl] at hfit
 obtain ⟨v,_,rfl,⟨k1,h1⟩,hfit⟩:=fitAll_cons hfit
 obtain rfl:=fitAll_nil hfit
 have hv:=fitV_one (by kernel_rfl) h1
 obtain ⟨xs,s,hok,hl⟩:=fit_slice (α:=Raw × Value) (enc:=rawC) (n:=5) (ok:=fun x=>Bs T.heap x.2 x.1.data∧x.1.data.length≤140737488355328) Tryz.underlying22 (by kernel_rfl) (by decide) (fun _=>rfl) (fun k ds hfe=>by
  have hlen:ds.length=5:=by
   cases k with
   | zero=>exact hfe.elim
   | succ k=>unfold fit at hfe; rw [Tryz.underlying46] at hfe; exact hfe.1
  have hL:=fit_leaf (P:=Tryz.prog) (h:=T.heap) 8 k 46 ds (rep 4 [3]++[44]) (by kernel_rfl) (by rw [hlen]; decide) hfe
  obtain ⟨a0,_,rfl,_,_,hL⟩:=fitL_int Tryz.underlying3 hL
  obtain ⟨a1,_,rfl,_,_,hL⟩:=fitL_int Tryz.underlying3 hL
  obtain ⟨a2,_,rfl,_,_,hL⟩:=fitL_int Tryz.underlying3 hL
  obtain ⟨a3,_,rfl,_,_,hL⟩:=fitL_int Tryz.underlying3 hL
  obtain ⟨w,_,k1,rfl,hw,hL⟩:=fitL_cell hL
  obtain rfl:=fitL_nil hL
  obtain ⟨bs,s,hl⟩:=fit_bytes Tryz.underlying44 Tryz.underlying5 (by kernel_rfl) (by kernel_rfl) hw
  exact ⟨(⟨a0,a1,a2,a3,bs⟩,w),⟨s,hl⟩,rfl⟩) hv
 have hby:Tryz.prog.bytesOf 46=56:=by kernel_rfl
 rw [hby] at hl
 refine (refuses_ok T T.heap v xs ⟨s⟩ (fun x hx=>(hok x hx).1) ?_ (fun x hx=>(hok x hx).2) ⟨tk,tn,rfl,rfl⟩).mono ?_
 ·omega
 ·intro v' h' q
  exact q
end Go.Proofs.YtnhbpmoeaodmnaaGreatDoor
