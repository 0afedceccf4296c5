/- Plain laws of the swarm (4): one asks, and is told. No program is walked here. · Plain laws of the swarm (5): one asks until it is told; what all hold. No program is walked here. · Plain laws of the swarm (6): one is deleted. No program is walked here. -/
import Derived.Test.YtkimkgbppegkhaaGreatVc
set_option linter.unusedVariables false
set_option linter.unusedSimpArgs false
namespace Go.Proofs.YtkimkgbppegkhaaGreat.Cm
open Go Go.RowKit Go.Proofs.YtkimkgbppegkhaaGreat.Gf
set_option maxRecDepth 100000
theorem fR.quiet{now:Nat}{ss ss2:List aq}{ls:List Lt}{an:List An}(h:fR now ss ls an ss2)(hq:∀s∈ss,s.op=none):ls=[]∧an=[]∧ss2=ss:=by
 induction h with
 |nil=>exact⟨rfl,rfl,rfl⟩
 |@snoc ss ss2 ls l an a s s2 h g ih=>
  obtain⟨rfl,rfl,rfl⟩:=ih fun s hs=>hq s (by simp[hs])
  rcases g with⟨_,rfl,rfl,rfl⟩|⟨o,ho,_⟩
  ·exact⟨rfl,rfl,rfl⟩
  ·rw[hq s sm]at ho;cases ho
theorem fR.one{now t:Nat}{ss ss2:List aq}{ls:List Lt}{an:List An}{s:aq}(h:fR now ss ls an ss2)(hs:ss[t]?=some s)(hq:∀(i:Nat) (s':aq),i≠t→ss[i]?=some s'→s'.op=none):∃s2,jj now s ls an s2∧ss2=ss.set t s2:=by
 induction h with
 |nil=>simp at hs
 |@snoc ss ss2 ls l an a s' s2 h g ih=>
  have hl:ss2.length=ss.length:=by
   clear ih g hs hq
   induction h with
   |nil=>rfl
   |snoc _ _ ih=>rw[List.length_append,List.length_append,ih];rfl
  by_cases ht:t<ss.length
  ·rw[List.getElem?_append_left ht]at hs
   obtain⟨s3,h1,rfl⟩:=ih hs fun i x hi hx=>hq i x hi (by rw[List.getElem?_append_left (List.getElem?_eq_some_iff.1 hx).1];exact hx)
   rcases g with⟨_,rfl,rfl,rfl⟩|⟨o,ho,_⟩
   ·refine⟨s3,by rw[List.append_nil,List.append_nil];exact h1,?_⟩
    rw[List.set_append_left _ _ ht]
   ·rw[hq ss.length s' om sm]at ho;cases ho
  ·have ht2:t=ss.length:=by
    have:=(List.getElem?_eq_some_iff.1 hs).1
    rw[List.length_append,List.length_singleton]at this
    omega
   subst ht2
   have e:s'=s:=by simpa using hs
   subst e
   obtain⟨rfl,rfl,rfl⟩:=h.quiet fun x hx=>by
    obtain⟨i,hi,rfl⟩:=List.getElem_of_mem hx
    exact hq i _ om (by rw[List.getElem?_append_left hi,List.getElem?_eq_getElem hi])
   refine⟨s2,g,?_⟩
   rw[List.set_append_right _ _ (Nat.le_refl _),Nat.sub_self]
   rfl
theorem oO(n:Nat):∀(ps kn:List Nat),bE n kn ps=ps.foldl (bp n) kn
 |[],_=>rfl
 |k::ps,kn=>by
  have e:jy n kn k=bp n kn k:=by
   unfold jy bp
   by_cases h:k=n
   ·simp[h]
   ·by_cases h2:k∈kn<;>simp[h,h2]
  show bE n (jy n kn k) ps=_
  rw[oO n ps,e];rfl
theorem xu{n k a:Nat}{kn:List Nat}(h:a∈kn∨(a=k∧a≠n)):a∈bp n kn k:=by
 unfold bp
 split
 ·rename_i h2
  rcases h with h | ⟨rfl,h⟩
  ·exact h
  ·exact h2.resolve_left h
 ·rcases h with h | ⟨rfl,h⟩<;>simp[h]
theorem rP{n a:Nat}(hn:a≠n):∀{ps kn:List Nat},a∈kn∨a∈ps→a∈ps.foldl (bp n) kn
 |[],_,h=>h.elim id fun h=>(by cases h)
 |k::ps,kn,h=>by
  rw[List.foldl_cons]
  refine rP hn ?_
  rcases h with h | h
  ·exact .inl (xu (.inl h))
  ·rcases List.mem_cons.1 h with rfl | h
   ·exact .inl (xu (.inr ⟨rfl,hn⟩))
   ·exact .inr h
abbrev recK(ps:List aq)(ip ik k:Nat):List Rg:=((ps[k]?).map fun s=>s.st.sy.filter (aW ip ik)).getD []
abbrev recA(ps:List aq)(ip ik:Nat)(l:List Nat):List Rg:=(l.map (recK ps ip ik)).flatten
/-- one that asks, and those that are asked -/
structure cC(Q now t ip ik u B N M:Nat)(bl:List (Nat×List (List Nat)))(ps:List aq)(s0:aq)(E:Int→List Nat→Prop):Prop where
 q4:Q≤4
 len:ps.length=Q
 nw:now≤6
 sh:b7 B N M
 rok:∀rcs:List Rc,(∀r∈rcs,r∈recU N 2 bl bl.length)→gZ B N M rcs
 at0:ps[t]?=some s0
 pe:∀(i:Nat) (s:aq),ps[i]?=some s→Qu 10 Q i s∧(∀r∈s.st.sy,c5 r)∧s.st.sy.length≤500∧nh s.st (now+1)∧s.st.lg≤500000000
 fl:∀(i:Nat) (s:aq),ps[i]?=some s→(s.st.sy.filter (aW ip ik)).length≤255
 mem:∀(i:Nat) (s:aq),ps[i]?=some s→∀r∈s.st.sy,aW ip ik r=true→r∈RRo ip ik u B N M bl
 ipl:ip≤1000
 ikl:ik≤1000
 gone:∀o:bI,eV s0.st o→o.ip=ip→o.ik=ik→∀(i:Nat) (s:aq),ps[i]?=some s→bK s.st.gone ip ik=none
 told:∀(o:bI) (e:Int) (d:List Nat),o.ip=ip→o.ik=ik→(∀r∈o.rs,r∈RRo ip ik u B N M bl)→ig s0.st o e d→E e d
 excl:∀(o:bI) (e:Int) (d:List Nat),o.ip=ip→o.ik=ik→(∀r∈o.rs,r∈RRo ip ik u B N M bl)→ig s0.st o e d→eV s0.st o→False
 all:∀o:bI,o.ip=ip→o.ik=ik→(∀r∈o.rs,r∈RRo ip ik u B N M bl)→eV s0.st o→(∀(i:Nat) (s:aq),ps[i]?=some s→∀r∈s.st.sy,aW ip ik r=true→r∈o.rs)→False
section
variable {Q now t ip ik u B N M:Nat} {bl:List (Nat×List (List Nat))} {ps:List aq} {s0:aq} {E:Int→List Nat→Prop}
theorem cC.memK(h:cC Q now t ip ik u B N M bl ps s0 E)(k:Nat):∀r∈recK ps ip ik k,r∈RRo ip ik u B N M bl:=fun r hr=>by
 unfold recK at hr
 cases hk:ps[k]? with
 |none=>rw[hk]at hr;cases hr
 |some s=>
  rw[hk]at hr
  obtain⟨h1,h2⟩:=List.mem_filter.1 (show r∈s.st.sy.filter (aW ip ik)from hr)
  exact h.mem k s hk r h1 h2
theorem cC.memA(h:cC Q now t ip ik u B N M bl ps s0 E)(l:List Nat):∀r∈recA ps ip ik l,r∈RRo ip ik u B N M bl:=fun r hr=>by
 obtain⟨k,hk,hr⟩:=List.mem_flatten.1 hr
 obtain⟨a,_,rfl⟩:=List.mem_map.1 hk
 exact h.memK a r hr
theorem cC.lenK(h:cC Q now t ip ik u B N M bl ps s0 E)(k:Nat):(recK ps ip ik k).length≤255:=by
 unfold recK
 cases hk:ps[k]? with
 |none=>exact Nat.zero_le _
 |some s=>exact h.fl k s hk
theorem cC.lenA(h:cC Q now t ip ik u B N M bl ps s0 E):∀l:List Nat,(recA ps ip ik l).length≤255*l.length
 |[]=>Nat.zero_le _
 |k::l=>by
  show(recK ps ip ik k++recA ps ip ik l).length≤_
  have:=h.lenK k
  have:=h.lenA l
  rw[List.length_append,List.length_cons];omega
theorem cC.rs(h:cC Q now t ip ik u B N M bl ps s0 E){o:bI}(h1:o.ip=ip)(h2:o.ik=ik)(hr:∀r∈o.rs,r∈RRo ip ik u B N M bl)(hl:o.rs.length<4000):eA o:=by
 subst h1 h2
 obtain⟨rcs,g1,g2⟩:=part hr
 exact .inr ⟨u,B,N,M,rcs,g1,h.sh,h.rok _ g2,by rw[g1,List.length_map]at hl;exact hl⟩
theorem cC.full(h:cC Q now t ip ik u B N M bl ps s0 E){A kn:List Nat}(hk:∀k,k<Q→k≠t→k∈kn)(hA:leftL kn A=[]){o:bI}(h1:o.ip=ip)(h2:o.ik=ik)(hrs:o.rs=recA ps ip ik (t::A))(hn:eV s0.st o):False:=by
 refine h.all o h1 h2 (by rw[hrs];exact h.memA _) hn fun i s hi r hr hid=>?_
 have hiQ:i<Q:=by rw[←h.len];exact(List.getElem?_eq_some_iff.1 hi).1
 have hiA:i∈t::A:=by
  by_cases e:i=t
  ·simp[e]
  ·refine List.mem_cons_of_mem _ (Classical.byContradiction fun hA2=>?_)
   have:i∈leftL kn A:=List.mem_filter.2 ⟨hk i hiQ e,by simpa using hA2⟩
   rw[hA]at this;cases this
 rw[hrs]
 refine List.mem_flatten.2 ⟨_,List.mem_map.2 ⟨i,hiA,rfl⟩,?_⟩
 show r∈recK ps ip ik i
 rw[recK,hi]
 exact List.mem_filter.2 ⟨hr,hid⟩
inductive iL(Q now t ip ik:Nat)(ps:List aq)(s0:aq)(E:Int→List Nat→Prop):List aq→List Lt→List An→Prop
 |early {kn:List Nat} {e:Int} {d:List Nat} (h:ig s0.st ⟨s0.tag+1,ip,ik,recA ps ip ik [t],kn,[],[]⟩ e d) (hk:b5 Q t kn):iL Q now t ip ik ps s0 E (ps.set t {s0 with tag:=s0.tag+1,op:=some ⟨s0.tag+1,ip,ik,recA ps ip ik [t],kn,[],[]⟩}) [] []
 |wait {A kn:List Nat} {k wl:Nat} {lt:Lt} (hl:lt=⟨1,t,k,wl,ip,ik,[],[]⟩∨∃pl:List Nat,(∀a∈pl,a<Q)∧pl.length≤4∧lt=⟨2,k,t,wl,ip,ik,pl,recK ps ip ik k⟩) (hA:b5 Q t A) (hkA:k∉A) (hkt:k≠t) (hkQ:k<Q) (hk:b5 Q t kn) (hf:∀a,a<Q→a≠t→a∈kn) (hw:wl=s0.wl+A.length+1) (hg:∀(i:Nat) (s:aq),ps[i]?=some s→bK s.st.gone ip ik=none):
  iL Q now t ip ik ps s0 E (ps.set t {s0 with tag:=s0.tag+1,wl:=wl,ws:=[⟨wl,s0.tag+1,k,now+6⟩],op:=some ⟨s0.tag+1,ip,ik,recA ps ip ik (t::A),kn,A++[k],[k]⟩}) [lt] []
 |done {wl:Nat} {e:Int} {d:List Nat} (hE:E e d) (hw:wl≤s0.wl+4):iL Q now t ip ik ps s0 E (ps.set t {s0 with tag:=s0.tag+1,wl:=wl}) [] [⟨t,s0.tag+1,e,ip,ik,d⟩]
def tV:List aq→List Lt→Nat
 |_,[]=>0
 |_,l::_=>2*(200-l.tag)+if l.kind=1 then 1 else 0
theorem b5.snoc{k:Nat}{kn:List Nat}(h:b5 Q t kn)(hk:k<Q)(h1:k≠t)(h2:k∉kn):b5 Q t (kn++[k]):=by
 have:=h.add hk
 unfold bp at this
 rw[if_neg (by simp[h1,h2])]at this
 exact this
theorem cC.n0(h:cC Q now t ip ik u B N M bl ps s0 E):s0.n=t∧t<Q:=⟨(h.pe t s0 h.at0).1.n,by rw[←h.len];exact(List.getElem?_eq_some_iff.1 h.at0).1⟩
theorem cC.recT(h:cC Q now t ip ik u B N M bl ps s0 E):s0.st.sy.filter (aW ip ik)=recA ps ip ik [t]:=by
 show _=recK ps ip ik t++[]
 rw[List.append_nil,recK,h.at0];rfl
theorem cC.find(h:cC Q now t ip ik u B N M bl ps s0 E){ls:List Lt}{s2:aq}(hf:gU now s0 ip ik ls s2):(∀l∈ls,cT l)∧iL Q now t ip ik ps s0 E (ps.set t s2) ls []∧tV (ps.set t s2) ls<1000:=by
 obtain⟨hn,htQ⟩:=h.n0
 subst hn
 obtain⟨hq,hsy,hsl,hex,hlg⟩:=h.pe s0.n s0 h.at0
 have hQ:=h.q4
 have hip:=h.ipl
 have hik:=h.ikl
 obtain⟨l,hl,hc⟩:=hf
 rw[h.recT,oO]at hc
 have hko:b5 Q s0.n (l.foldl (bp s0.n) []):=b5.adds ⟨hq.kn.le,htQ,List.nodup_nil,sm,fun _ h=>(by cases h)⟩ fun a ha=>hq.kn.lt a (hl.subset ha)
 have hfu:∀a,a<Q→a≠s0.n→a∈l.foldl (bp s0.n) []:=fun a ha hne=>rP hne (.inr (hl.symm.subset (hq.full a ha hne)))
 rcases hc with⟨⟨e,d,ht⟩,rfl,rfl⟩|⟨hnt,⟨hleft,rfl,rfl⟩|⟨k,hk,rfl,rfl⟩⟩
 ·exact⟨fun _ h=>(by cases h),.early ht hko,by simp[tV]⟩
 ·exact(h.full (A:=[]) hfu hleft rfl rfl rfl hnt).elim
 ·have hkl:=(List.mem_filter.1 hk).1
  have hkQ:=hko.lt k hkl
  have hkt:k≠s0.n:=fun e=>hko.self (e▸hkl)
  refine⟨fun x hx=>?_,?_,?_⟩
  ·rw[List.mem_singleton]at hx
   subst hx
   have:=hq.wl
   exact⟨by show 1≤1;omega,by show 1≤3;omega,by show s0.n≤_;omega,by show k≤_;omega,by show s0.wl+1≤_;omega,by show ip≤_;omega,by show ik≤_;omega,fun _ h=>(by cases h),Nat.zero_le _,fun _ h=>(by cases h),Nat.zero_le _⟩
  ·have e:s0.ws++[⟨s0.wl+1,s0.tag+1,k,now+6⟩]=[(⟨s0.wl+1,s0.tag+1,k,now+6⟩:Wt)]:=by rw[hq.ws];rfl
   rw[e]
   exact .wait (A:=[]) (.inl rfl) ⟨hq.kn.le,htQ,List.nodup_nil,sm,fun _ h=>(by cases h)⟩ sm hkt hkQ hko hfu rfl (h.gone _ hnt rfl rfl)
  ·show 2*(200-(s0.wl+1))+1<1000
   omega
theorem yu{s:aq}(h1:s.ws=[])(h2:s.op=none)(a b:Nat):{s with tag:=a,wl:=b,ws:=[],op:=none}={s with tag:=a,wl:=b}:=by
 cases s
 simp only at h1 h2
 subst h1 h2
 rfl
theorem xw{k:Nat}{s:aq}(h:ps[k]?=some s):recK ps ip ik k=s.st.sy.filter (aW ip ik):=by rw[recK,h];rfl
theorem DZ(A:List Nat)(k:Nat):recA ps ip ik A++recK ps ip ik k=recA ps ip ik (A++[k]):=by simp[recA]
theorem cC.calm(h:cC Q now t ip ik u B N M bl ps s0 E):ju now (iL Q now t ip ik ps s0 E) tV:=⟨fun ps1 lt rest an hm=>by
 obtain⟨hn,htQ⟩:=h.n0
 subst hn
 obtain⟨hq,hsy,hsl,hex,hlg⟩:=h.pe s0.n s0 h.at0
 have hQ:=h.q4
 have hip:=h.ipl
 have hik:=h.ikl
 have hnow:=h.nw
 have hwl:=hq.wl
 have htl:s0.n<ps.length:=by rw[h.len];exact htQ
 generalize hfe:lt::rest=fl at hm
 cases hm with
 |early=>cases hfe
 |done=>cases hfe
 |@wait A kn k wl lt' hl hA hkA hkt hkQ hk hf hw hg=>
  injection hfe with e1 e2
  subst e1 e2
  obtain⟨sk,hsk⟩:∃s,ps[k]?=some s:=⟨_,List.getElem?_eq_getElem (by rw[h.len];exact hkQ)⟩
  obtain⟨kq,ksy,ksl,kex,klg⟩:=h.pe k sk hsk
  have hAl:=(hA.snoc hkQ hkt hkA).len
  rw[List.length_append,List.length_singleton]at hAl
  rcases hl with rfl | ⟨pl,hp1,hp2,rfl⟩
  ·refine⟨sk,Q,?_,⟨om,by rw[kq.n];exact kq.kn,htQ,fun e=>hkt (by rw[←kq.n];exact e.symm),kq.n.symm,ksy,om,klg,by rw[kq.ws];exact Nat.zero_le _,.inl rfl⟩,sm,fun ls a s2 hS=>?_⟩
   ·show(ps.set s0.n _)[k]?=_
    rw[List.getElem?_set_ne (fun e=>hkt e.symm)];exact hsk
   ·rcases hS with⟨_,rfl,⟨l,hp,rfl⟩,rfl⟩|⟨k1,_⟩|⟨k1,_⟩
    ·have hadd:bp sk.n sk.kn s0.n=sk.kn:=kq.add htQ
     have hadd':bp sk.n sk.kn (⟨1,s0.n,k,wl,ip,ik,[],[]⟩:Lt).fr=sk.kn:=hadd
     rw[hadd']at hp⊢
     have hrec:fu sk.st ip ik=recK ps ip ik k:=by
      rw[xw hsk,fu,hg k sk hsk,List.append_nil]
     have hpl:∀a∈l.filter (fun a=> !decide (a=s0.n)),a<Q:=fun a ha=>kq.kn.lt a (hp.subset (List.mem_filter.1 ha).1)
     have hpll:(l.filter (fun a=> !decide (a=s0.n))).length≤4:=by
      have:=List.length_filter_le (fun a=> !decide (a=s0.n)) l
      have:=hp.length_eq
      have:=kq.kn.len
      omega
     refine⟨fun x hx=>?_,?_,?_⟩
     ·rw[List.mem_singleton]at hx
      subst hx
      refine⟨by show 1≤2;omega,by show 2≤3;omega,by show sk.n≤_;rw[kq.n];omega,by show s0.n≤_;omega,by show wl≤_;omega,by show ip≤_;omega,by show ik≤_;omega,fun a ha=>?_,by show List.length _≤_;exact Nat.le_trans hpll om,fun r hr=>?_,?_⟩
      ·have:=hpl a ha;omega
      ·have hr:r∈fu sk.st ip ik:=hr
       rw[hrec,xw hsk]at hr
       exact(ksy r (List.mem_filter.1 hr).1).ok
      ·show(fu sk.st ip ik).length≤255
       rw[hrec];exact h.lenK k
     ·show iL Q now s0.n ip ik ps s0 E ((ps.set s0.n _).set k _) _ _
      rw[rN (l:=ps.set s0.n _) (by rw[List.getElem?_set_ne (fun e=>hkt e.symm)];exact hsk)]
      refine .wait (A:=A) (.inr ⟨_,hpl,hpll,?_⟩) hA hkA hkt hkQ hk hf hw hg
      show(⟨2,sk.n,s0.n,wl,ip,ik,_,fu sk.st ip ik⟩:Lt)=_
      rw[hrec,kq.n]
     ·show 2*(200-wl)+0<2*(200-wl)+1
      omega
    ·cases k1
    ·cases k1
  ·have hK:recA ps ip ik (s0.n::A)++recK ps ip ik k=recA ps ip ik (s0.n::(A++[k])):=DZ (s0.n::A) k
   have hmem:∀r∈recA ps ip ik (s0.n::A)++recK ps ip ik k,r∈RRo ip ik u B N M bl:=by rw[hK];exact h.memA _
   have hlenA:(recA ps ip ik (s0.n::A)++recK ps ip ik k).length<4000:=by
    rw[hK]
    have:=h.lenA (s0.n::(A++[k]))
    rw[List.length_cons,List.length_append,List.length_singleton]at this
    omega
   have hkn2:b5 Q s0.n (bE s0.n kn pl):=by rw[oO];exact hk.adds hp1
   obtain⟨rcs,g1,g2⟩:=part (h.memK k)
   have hrk:=h.rok rcs g2
   refine⟨_,Q,List.getElem?_set_self htl,⟨om,hq.kn,hkQ,hkt,rfl,hsy,by show s0.st.sy.length≤_;omega,hlg,by show 1≤1000;omega,.inr (.inl ⟨rfl,hp1,by show pl.length<_;omega,.inr ⟨_,u,B,N,M,rcs,rfl,g1,⟨_,List.mem_singleton.2 rfl,rfl,rfl⟩,fun w hw _ _=>?_,by show wl<_;omega,fun q hq1=>?_,?_,?_,?_,by show 1<1000;omega,List.mem_singleton.2 rfl,?_,hlenA,?_⟩⟩)⟩,sm,fun ls a s2 hS=>?_⟩
   ·rw[List.mem_singleton]at hw;rw[hw]
   ·have h1:=(hrk q hq1).2.2.1
    have h2:=h.sh.n1
    have h3:=h.sh.n2
    rw[h1];omega
   ·show(bE s0.n kn pl).length<1000
    have:=hkn2.len;omega
   ·have:=hk.len;show kn.length<1000;omega
   ·show(A++[k]).length<1000
    rw[List.length_append,List.length_singleton];omega
   ·exact h.rs rfl rfl hmem hlenA
   ·have:=h.lenK k
    rw[g1,List.length_map]at this
    omega
   ·rcases hS with⟨k1,_⟩|⟨_,⟨hno,_⟩|⟨o,ho,hS⟩⟩|⟨k1,_⟩
    ·cases k1
    ·cases hno
    ·have ho:=(Option.some.inj ho).symm
     subst ho
     have e1:iM [k] k=[]:=by simp[iM]
     have e2:([⟨wl,s0.tag+1,k,now+6⟩]:List Wt).filter (fun w=> !decide (w.tag=wl∧w.peer=k))=[]:=by simp
     have e3:pl.foldl (bp s0.n) (bp s0.n s0.kn k)=s0.kn:=by rw[hq.add hkQ];exact hq.adds hp1
     simp only[e1,e2,e3]at hS
     rw[hK]at hS
     have hf2:∀a,a<Q→a≠s0.n→a∈bE s0.n kn pl:=fun a ha hne=>by rw[oO];exact rP hne (.inl (hf a ha hne))
     rcases hS with⟨e,d,hed,rfl,rfl,rfl⟩|⟨hnt,rfl,⟨ho,_⟩|⟨_,k2,hk2,rfl,rfl⟩⟩
     ·refine⟨fun _ h=>(by cases h),?_,?_⟩
      ·show iL Q now s0.n ip ik ps s0 E ((ps.set s0.n _).set s0.n _) [] [_]
       rw[List.set_set,List.filter_nil,yu hq.ws hq.op]
       refine .done ?_ (by show wl≤s0.wl+4;omega)
       rcases hed with hed | ⟨hnt,_,hleft⟩
       ·exact h.told _ e d rfl rfl (h.memA _) hed
       ·exact(h.full hf2 hleft rfl rfl rfl hnt).elim
      ·show 0<2*(200-wl)+0
       omega
     ·exact absurd rfl ho
     ·obtain⟨hkl,hkn⟩:=List.mem_filter.1 hk2
      have hkA2:k2∉A++[k]:=by simpa using hkn
      have hk2Q:=hkn2.lt k2 hkl
      have hk2t:k2≠s0.n:=fun e=>hkn2.self (e▸hkl)
      refine⟨fun x hx=>?_,?_,?_⟩
      ·rw[List.mem_singleton]at hx
       subst hx
       exact⟨by show 1≤1;omega,by show 1≤3;omega,by show s0.n≤_;omega,by show k2≤_;omega,by show wl+1≤_;omega,by show ip≤_;omega,by show ik≤_;omega,fun _ h=>(by cases h),Nat.zero_le _,fun _ h=>(by cases h),Nat.zero_le _⟩
      ·show iL Q now s0.n ip ik ps s0 E ((ps.set s0.n _).set s0.n _) [_] []
       rw[List.set_set]
       refine .wait (A:=A++[k]) (.inl rfl) (hA.snoc hkQ hkt hkA) hkA2 hk2t hk2Q hkn2 hf2 (by rw[List.length_append,List.length_singleton];show wl+1=_;omega) hg
      ·show 2*(200-(wl+1))+1<2*(200-wl)+0
       omega
    ·cases k1⟩
end
/-- the answer, and what is left -/
def zO(t:Nat)(ps:List aq)(s0:aq)(E:Int→List Nat→Prop)(x:An)(ps3:List aq)(ls:List Lt):Prop:=x.peer=t∧E x.err x.d∧ls=[]∧∃wl,wl≤s0.wl+4∧ps3=ps.set t {s0 with tag:=s0.tag+1,wl:=wl}
section
variable {Q now t ip ik u B N M:Nat} {bl:List (Nat×List (List Nat))} {ps:List aq} {s0:aq} {E:Int→List Nat→Prop}
theorem mt{ps:List aq}{t:Nat}{s s':aq}(h:s∈ps.set t s'):s=s'∨s∈ps:=by
 rcases List.mem_or_eq_of_mem_set h with h | h
 ·exact .inr h
 ·exact .inl h
theorem cC.ends(h:cC Q now t ip ik u B N M bl ps s0 E)(ps2:List aq)(an:List An)(hJ:iL Q now t ip ik ps s0 E ps2 [] an):0<ps2.length∧ps2.length≤100∧(∀s∈ps2,lr (now+1) s)∧(∀s∈ps2,∀ls a s2,jj (now+1) s ls a s2→∀l∈ls,cT l)∧∀ls a ps3,fR (now+1) ps2 ls a ps3→∃x,an++a=[x]∧zO t ps s0 E x ps3 ls:=by
 obtain⟨hn,htQ⟩:=h.n0
 subst hn
 obtain⟨hq,hsy,hsl,hex,hlg⟩:=h.pe s0.n s0 h.at0
 have hnow:=h.nw
 have hQ:=h.q4
 have hlen:=h.len
 have hwl:=hq.wl
 have hold:∀s∈ps,s.op=none∧lr (now+1) s:=fun s hs=>by
  obtain⟨i,hi,rfl⟩:=List.getElem_of_mem hs
  obtain⟨g1,g2,g3,g4,g5⟩:=h.pe i _ (List.getElem?_eq_getElem hi)
  have g6:=g1.wl
  exact⟨g1.op,g4,by rw[g1.ws];exact Nat.zero_le _,by rw[g1.ws];exact fun _ h=>(by cases h),om,om,om,fun o ho=>by rw[g1.op]at ho;cases ho⟩
 have hset:∀s',(ps.set s0.n s').length=Q:=fun s'=>by rw[List.length_set];exact hlen
 generalize hfe:([]:List Lt)=fl at hJ
 cases hJ with
 |wait=>cases hfe
 |@early kn e d ht hk=>
  have hm:=h.memA [s0.n]
  have hl:=h.lenA [s0.n]
  have hkl:=hk.len
  have hne:∀ls a s2,jj (now+1) {s0 with tag:=s0.tag+1,op:=some ⟨s0.tag+1,ip,ik,recA ps ip ik [s0.n],kn,[],[]⟩} ls a s2→ls=[]∧(∃e d,E e d∧a=[⟨s0.n,s0.tag+1,e,ip,ik,d⟩])∧s2={s0 with tag:=s0.tag+1,wl:=s0.wl}:=fun ls a s2 hS=>by
   rcases hS with⟨hno,_⟩|⟨o,ho,hS⟩
   ·cases hno
   ·have ho:=(Option.some.inj ho).symm
    subst ho
    rcases hS with⟨e2,d2,h1,h2,h3,h4⟩|⟨h1,_⟩
    ·refine⟨h2,⟨e2,d2,?_,h3⟩,?_⟩
     ·rcases h1 with h1 | ⟨h1,_⟩
      ·exact h.told _ e2 d2 rfl rfl hm h1
      ·exact(h.excl _ e d rfl rfl hm ht h1).elim
     ·rw[h4]
      have e1:s0.ws.filter (fun w=> !decide (w.op=s0.tag+1))=[]:=by rw[hq.ws];rfl
      show{s0 with tag:=s0.tag+1,op:=none,ws:=s0.ws.filter (fun w=> !decide (w.op=s0.tag+1))}=_
      rw[e1]
      exact yu hq.ws hq.op _ _
    ·exact(h.excl _ e d rfl rfl hm ht h1).elim
  refine⟨by rw[hset];omega,by rw[hset];omega,fun s hs=>?_,fun s hs ls a s2 hS=>?_,fun ls a ps3 hT=>?_⟩
  ·rcases mt hs with rfl | hs
   ·refine⟨hex,by show s0.ws.length≤_;rw[hq.ws];exact Nat.zero_le _,by show∀w∈s0.ws,_;rw[hq.ws];exact fun _ h=>(by cases h),om,om,by show s0.wl<_;omega,fun o ho=>?_⟩
    have ho:=(Option.some.inj ho).symm
    subst ho
    exact⟨by show kn.length<_;omega,by show 0<1000;omega,by show 0<1000;omega,h.rs rfl rfl hm (Nat.lt_of_le_of_lt hl sm),Nat.lt_of_le_of_lt hl sm⟩
   ·exact(hold s hs).2
  ·rcases mt hs with rfl | hs
   ·rw[(hne ls a s2 hS).1];exact fun _ h=>(by cases h)
   ·rcases hS with⟨_,rfl,_⟩|⟨o,ho,_⟩
    ·exact fun _ h=>(by cases h)
    ·rw[(hold s hs).1]at ho;cases ho
  ·obtain⟨s2,hS,rfl⟩:=hT.one (t:=s0.n) (List.getElem?_set_self om) fun i s' hi hx=>by
    rw[List.getElem?_set_ne (fun e=>hi e.symm)]at hx
    exact(hold s' (List.mem_of_getElem? hx)).1
   obtain⟨rfl,⟨e2,d2,hE,rfl⟩,rfl⟩:=hne _ _ _ hS
   exact⟨_,rfl,rfl,hE,rfl,s0.wl,om,by rw[List.set_set]⟩
 |@done wl e d hE hw=>
  have hnw:({s0 with tag:=s0.tag+1,wl:=wl}:aq).op=none:=hq.op
  refine⟨by rw[hset];omega,by rw[hset];omega,fun s hs=>?_,fun s hs ls a s2 hS=>?_,fun ls a ps3 hT=>?_⟩
  ·rcases mt hs with rfl | hs
   ·exact⟨hex,by show s0.ws.length≤_;rw[hq.ws];exact Nat.zero_le _,by show∀w∈s0.ws,_;rw[hq.ws];exact fun _ h=>(by cases h),om,om,by show wl<_;omega,fun o ho=>by rw[hnw]at ho;cases ho⟩
   ·exact(hold s hs).2
  ·rcases hS with⟨_,rfl,_⟩|⟨o,ho,_⟩
   ·exact fun _ h=>(by cases h)
   ·rcases mt hs with rfl | hs
    ·rw[hnw]at ho;cases ho
    ·rw[(hold s hs).1]at ho;cases ho
  ·obtain⟨rfl,rfl,rfl⟩:=hT.quiet fun s hs=>by
    rcases mt hs with rfl | hs
    ·exact hnw
    ·exact(hold s hs).1
   exact⟨_,rfl,rfl,hE,rfl,wl,hw,rfl⟩
end
/-- all is calm; what all hold together -/
structure cN(T Q:Nat)(RS:List Rg)(G:List (Nat×Nat×Nat))(Z:Nat)(ps:List aq):Prop where
 len:ps.length=Q
 q1:1≤Q
 q4:Q≤4
 pe:∀(i:Nat) (s:aq),ps[i]?=some s→Qu T Q i s∧s.st.gone=G∧s.st.lg≤Z
 all:(fV ps).Perm RS
theorem dA.hold{Q Z:Nat}{RS:List Rg}{ps:List aq}(h:dA Q RS Z ps []):cN 0 Q RS [] Z ps:=⟨h.len,h.q1,h.q4,fun i s hs=>by
 obtain⟨h1,h2,h3⟩:=h.pe i s hs
 exact⟨h1,h2,by simpa using h3⟩,by
 have:=h.all
 rwa [show rsAll []=[]from rfl,List.append_nil]at this⟩
theorem Qu.le{T T2 Q i:Nat}{s:aq}(h:Qu T Q i s)(hT:T≤T2):Qu T2 Q i s:=⟨h.n,h.kn,h.full,h.op,h.ws,h.last,Nat.le_trans h.tag hT,by have:=h.wl;omega⟩
theorem cN.at{T Q Z:Nat}{RS:List Rg}{G:List (Nat×Nat×Nat)}{ps:List aq}(h:cN T Q RS G Z ps){i:Nat}(hi:i<Q):∃s,ps[i]?=some s∧Qu T Q i s∧s.st.gone=G∧s.st.lg≤Z:=by
 obtain⟨s,hs⟩:∃s,ps[i]?=some s:=⟨_,List.getElem?_eq_getElem (by rw[h.len];exact hi)⟩
 exact⟨s,hs,h.pe i s hs⟩
theorem cN.sub{T Q Z:Nat}{RS:List Rg}{G:List (Nat×Nat×Nat)}{ps:List aq}(h:cN T Q RS G Z ps){i:Nat}{s:aq}(hs:ps[i]?=some s):∃R,RS.Perm (s.st.sy++R):=by
 obtain⟨R,r1,_⟩:=kP hs
 exact⟨R,h.all.symm.trans r1⟩
theorem cN.asked{T Q Z t:Nat}{RS:List Rg}{G:List (Nat×Nat×Nat)}{ps ps3:List aq}{s0:aq}{E:Int→List Nat→Prop}{x:An}{ls:List Lt}(h:cN T Q RS G Z ps)(h0:ps[t]?=some s0)(hK:zO t ps s0 E x ps3 ls):x.peer=t∧E x.err x.d∧ls=[]∧cN (T+1) Q RS G Z ps3:=by
 obtain⟨h1,h2,h3,wl,h4,rfl⟩:=hK
 refine⟨h1,h2,h3,by rw[List.length_set];exact h.len,h.q1,h.q4,fun i s hi=>?_,?_⟩
 ·rcases jS hi (List.getElem?_eq_some_iff.1 h0).1 with⟨rfl,rfl⟩|⟨_,hi⟩
  ·obtain⟨q1,q2,q3⟩:=h.pe _ s0 h0
   have q4:=q1.tag
   have q5:=q1.wl
   exact⟨⟨q1.n,q1.kn,q1.full,q1.op,q1.ws,q1.last,by show s0.tag+1≤_;omega,by show wl≤_;omega⟩,q2,q3⟩
  ·obtain⟨q1,q2,q3⟩:=h.pe i s hi
   exact⟨q1.le om,q2,q3⟩
 ·obtain⟨R,r1,r2⟩:=kP h0
  exact((r2 {s0 with tag:=s0.tag+1,wl:=wl}).trans r1.symm).trans h.all
section
variable {T Q Z now t ip ik u B N M:Nat} {bl:List (Nat×List (List Nat))} {ps:List aq} {s0:aq} {RS:List Rg} {G:List (Nat×Nat×Nat)} {data:List Nat}
theorem Dd{r:Rg}:r∈fV ps↔∃(i:Nat) (s:aq),ps[i]?=some s∧r∈s.st.sy:=by
 unfold fV
 rw[List.mem_flatten]
 constructor
 ·rintro ⟨l,hl,hr⟩
  obtain⟨s,hs,rfl⟩:=List.mem_map.1 hl
  obtain⟨i,hi,rfl⟩:=List.getElem_of_mem hs
  exact⟨i,_,List.getElem?_eq_getElem hi,hr⟩
 ·rintro ⟨i,s,hs,hr⟩
  exact⟨_,List.mem_map.2 ⟨s,List.mem_of_getElem? hs,rfl⟩,hr⟩
structure nA(T Q Z now t ip ik u B N M:Nat)(data:List Nat)(bl:List (Nat×List (List Nat)))(RS:List Rg)(G:List (Nat×Nat×Nat)):Prop where
 tl:T≤10
 zl:Z≤500000000
 nw:now≤6
 tQ:t<Q
 f:ez B N M data bl
 rs:dp RS
 un:∀r∈RS,now+1≤eX r
 gn:G=[]∨∃a b u',G=[(a,b,u')]∧now+1≤u'
 ipl:ip≤1000
 ikl:ik≤1000
 mem:∀r∈RS,aW ip ik r=true→r∈RRo ip ik u B N M bl
 fl:(RS.filter (aW ip ik)).length≤255
theorem cN.askC(h:cN T Q RS G Z ps)(a:nA T Q Z now t ip ik u B N M data bl RS G)(h0:ps[t]?=some s0){E:Int→List Nat→Prop}
 (gone:∀o:bI,eV s0.st o→o.ip=ip→o.ik=ik→bK G ip ik=none)
 (told:∀(o:bI) (e:Int) (d:List Nat),o.ip=ip→o.ik=ik→(∀r∈o.rs,r∈RRo ip ik u B N M bl)→ig s0.st o e d→E e d)
 (excl:∀(o:bI) (e:Int) (d:List Nat),o.ip=ip→o.ik=ik→(∀r∈o.rs,r∈RRo ip ik u B N M bl)→ig s0.st o e d→eV s0.st o→False)
 (all:∀o:bI,o.ip=ip→o.ik=ik→(∀r∈o.rs,r∈RRo ip ik u B N M bl)→eV s0.st o→(∀r∈RS,aW ip ik r=true→r∈o.rs)→False):cC Q now t ip ik u B N M bl ps s0 E:=by
 refine⟨h.q4,h.len,a.nw,a.f.sh,fun rcs hr=>(a.f.ok hr).2,h0,fun i s hs=>?_,fun i s hs=>?_,fun i s hs r hr hi=>?_,a.ipl,a.ikl,fun o hn h1 h2 i s hs=>?_,told,excl,fun o h1 h2 h3 hn h4=>all o h1 h2 h3 hn fun r hr hi=>?_⟩
 ·obtain⟨q1,q2,q3⟩:=h.pe i s hs
  obtain⟨R,hR⟩:=h.sub hs
  have hs2:=a.rs.sub hR
  have hin:∀r∈s.st.sy,r∈RS:=fun r hr=>hR.symm.subset (List.mem_append_left _ hr)
  have:=hs2.len
  refine⟨q1.le a.tl,hs2.sy,om,⟨?_,fun r hr=>a.un r (hin r hr),om⟩,Nat.le_trans q3 a.zl⟩
  rw[q2];exact a.gn
 ·obtain⟨R,hR⟩:=h.sub hs
  have e1:=(hR.filter (aW ip ik)).length_eq
  have e2:=a.fl
  rw[List.filter_append,List.length_append]at e1
  omega
 ·obtain⟨R,hR⟩:=h.sub hs
  exact a.mem r (hR.symm.subset (List.mem_append_left _ hr)) hi
 ·rw[(h.pe i s hs).2.1];exact gone o hn h1 h2
 ·obtain⟨i,s,hs,hr2⟩:=Dd.1 (h.all.symm.subset hr)
  exact h4 i s hs r hr2 hi
theorem cN.lives(h:cN T Q RS G Z ps)(a:nA T Q Z now t ip ik u B N M data bl RS G)(h0:ps[t]?=some s0)(hg:bK G ip ik=none)(hall:∀r∈RRo ip ik u B N M bl,r∈RS):cC Q now t ip ik u B N M bl ps s0 fun e d=>e=0∧d=data:=by
 have hg0:bK s0.st.gone ip ik=none:=by rw[(h.pe t s0 h0).2.1];exact hg
 refine h.askC a h0 (fun _ _ _ _=>hg) (fun o e d h1 h2 h3 ht=>a.f.tol ht h1 h2 hg0 h3) (fun o e d h1 h2 h3 ht hn=>a.f.excl ht hn h1 h2 h3) fun o h1 h2 h3 hn h4=>a.f.all hn h1 h2 h3 fun r hr=>h4 r (hall r hr) ?_
 obtain⟨q,_,rfl⟩:=List.mem_map.1 hr
 exact decide_eq_true ⟨rfl,rfl⟩
theorem cN.gones(h:cN T Q RS G Z ps)(a:nA T Q Z now t ip ik u B N M data bl RS G)(h0:ps[t]?=some s0){v:Nat}(hg:bK G ip ik=some v):cC Q now t ip ik u B N M bl ps s0 fun e _=>e=7:=by
 have hg0:bK s0.st.gone ip ik=some v:=by rw[(h.pe t s0 h0).2.1];exact hg
 have hn:∀o:bI,o.ip=ip→o.ik=ik→eV s0.st o→False:=fun o h1 h2 hn=>by
  have:=hn.1
  rw[h1,h2,hg0]at this
  cases this
 refine h.askC a h0 (fun o hq h1 h2=>(hn o h1 h2 hq).elim) (fun o e d h1 h2 h3 ht=>?_) (fun o e d h1 h2 h3 ht hq=>hn o h1 h2 hq) fun o h1 h2 h3 hq h4=>hn o h1 h2 hq
 rcases ht with⟨_,he⟩|⟨hq,_⟩
 ·exact he
 ·rw[h1,h2,hg0]at hq;cases hq
end
abbrev l_(f k:Nat)(r:Rg):Lt:=⟨3,f,k,0,0,0,[],[r]⟩
theorem yf{f:Nat}{r:Rg}:∀l:List Nat,outL f l (l.map fun _=>[r])=(l.filter fun k=> !decide (k=f)).map fun k=>l_ f k r
 |[]=>rfl
 |k::l=>by
  show delL f k [r]++outL f l (l.map fun _=>[r])=_
  rw[yf l]
  unfold delL
  by_cases h:k=f
  ·simp[h]
  ·simp[h]
/-- what a peer holds behind a tomb -/
def yD(ip ik u:Nat)(s s2:aq):Prop:=∃lg,lg≤s.st.lg+1000∧s2={s with st:=⟨[(ip,ik,u)],s.st.sy.filter fun x=> !aW ip ik x,lg⟩}
structure ib(T Q f ip ik u:Nat)(ps0 ps:List aq)(l:List Nat):Prop where
 len:ps.length=Q
 nod:l.Nodup
 lt:∀k∈l,k<Q∧k≠f
 pe:∀(i:Nat) (s:aq),ps[i]?=some s→∃s0,ps0[i]?=some s0∧((i∈l∧s=s0)∨(i∉l∧yD ip ik u s0 s))
theorem yL{ip ik u:Nat}{s:aq}{st2:bi}(hg:s.st.gone=[])(h:ce s.st [.tb ip ik u] st2):st2=⟨[(ip,ik,u)],s.st.sy.filter fun x=> !aW ip ik x,st2.lg⟩:=by
 obtain⟨h1,h2⟩:=Dp h
 rw[hg]at h1
 cases st2
 simp only at h1 h2
 rw[h1,h2];rfl
theorem ib.calm{T Q Z f now ip ik u:Nat}{RS:List Rg}{ps0:List aq}(h0:cN T Q RS [] Z ps0)(hR:dp RS)(hf:f<Q)(hnow:now≤1000)(hZ:Z≤100000000)(h1:ip≤1000)(h2:1≤ik)(h3:ik≤1000)(h4:u≤100000):
 ju now (fun ps fl an=>(∃l,fl=l.map (fun k=>l_ f k (.tb ip ik u))∧ib T Q f ip ik u ps0 ps l)∧an=[]) (fun _ fl=>fl.length):=⟨fun ps lt rest an ⟨⟨l,hl,h⟩,ha⟩=>by
 subst ha
 cases l with
 |nil=>cases hl
 |cons k l=>
  injection hl with e1 e2
  subst e1 e2
  have hk:=h.lt k sm
  have hQ:=h0.q4
  obtain⟨s,hs⟩:∃s,ps[k]?=some s:=⟨_,List.getElem?_eq_getElem (by rw[h.len];exact hk.1)⟩
  obtain⟨s0,hs0,hc⟩:=h.pe k s hs
  have hs2:s=s0:=by
   rcases hc with⟨_,hc⟩|⟨hc,_⟩
   ·exact hc
   ·exact absurd sm hc
  subst hs2
  obtain⟨q1,q2,q3⟩:=h0.pe k s hs0
  obtain⟨R,hRs⟩:=h0.sub hs0
  have hsub:=hR.sub hRs
  have hsl:=hsub.len
  have hll:l.length≤4:=by
   have:=(List.nodup_cons.1 h.nod).2.length_le_of_subset (l₂:=List.range Q) fun a ha=>List.mem_range.2 (h.lt a (by simp[ha])).1
   rw[List.length_range]at this
   omega
  refine⟨s,Q,hs,⟨hnow,by rw[q1.n];exact q1.kn,hf,fun e=>hk.2 (by rw[←q1.n];exact e.symm),q1.n.symm,hsub.sy,om,om,by rw[q1.ws];exact Nat.zero_le _,.inr (.inr ⟨rfl,fun r hr=>?_,xL (by rw[q2];rfl) om,by show 1<1000;omega⟩)⟩,by rw[List.length_map];omega,fun ls a s2 hS=>?_⟩
  ·rw[List.mem_singleton]at hr
   subst hr
   exact⟨om,h2,om,om⟩
  ·rcases hS with⟨k1,_⟩|⟨k1,_⟩|⟨_,rfl,rfl,st2,g1,g2,rfl⟩
   ·cases k1
   ·cases k1
   ·have hadd:bp s.n s.kn f=s.kn:=q1.add hf
    have hadd':bp s.n s.kn (l_ f k (.tb ip ik u)).fr=s.kn:=hadd
    rw[hadd',List.append_nil]
    refine⟨fun x hx=>(by cases hx),⟨⟨l,rfl,?_⟩,rfl⟩,sm⟩
    have hnd:=List.nodup_cons.1 h.nod
    refine⟨by rw[List.length_set];exact h.len,hnd.2,fun a ha=>h.lt a (by simp[ha]),fun i s' hi=>?_⟩
    rcases jS hi (by rw[h.len];exact hk.1)with⟨rfl,rfl⟩|⟨hne,hi⟩
    ·refine⟨s,hs0,.inr ⟨hnd.1,st2.lg,?_,?_⟩⟩
     ·have:(l_ f i (.tb ip ik u)).rs.length=1:=rfl
      rw[this]at g2
      omega
     ·show{s with st:=st2}=_
      rw[yL q2 g1]
    ·have hne:i≠k:=hne
     obtain⟨s0,g3,g4⟩:=h.pe i s' hi
     refine⟨s0,g3,?_⟩
     rcases g4 with⟨g4,g5⟩|⟨g4,g5⟩
     ·exact .inl ⟨(List.mem_cons.1 g4).resolve_left hne,g5⟩
     ·exact .inr ⟨fun hm=>g4 (by simp[hm]),g5⟩⟩
theorem ib.start{T Q Z f ip ik u:Nat}{RS:List Rg}{ps0:List aq}(h0:cN T Q RS [] Z ps0){s:aq}{l:List Nat}{st2:bi}(hs:ps0[f]?=some s)(hl:l.Perm (s.kn++[s.n]))(hp:ce s.st [.tb ip ik u] st2)(hlg:st2.lg≤s.st.lg+1000):ib T Q f ip ik u ps0 (ps0.set f {s with st:=st2}) (l.filter fun k=> !decide (k=f)):=by
 obtain⟨q1,q2,q3⟩:=h0.pe f s hs
 have hfQ:f<Q:=by rw[←h0.len];exact(List.getElem?_eq_some_iff.1 hs).1
 have hk:=q1.kn
 refine⟨by rw[List.length_set];exact h0.len,?_,fun k hk2=>?_,fun i s' hi=>?_⟩
 ·refine(hl.nodup_iff.2 ?_).filter _
  rw[List.nodup_append]
  refine⟨hk.nod,sm,fun a ha b hb e=>?_⟩
  rw[List.mem_singleton]at hb
  subst hb e
  rw[q1.n]at ha
  exact hk.self ha
 ·obtain⟨g1,g2⟩:=List.mem_filter.1 hk2
  have g2:k≠f:=by simpa using g2
  refine⟨?_,g2⟩
  rcases List.mem_append.1 (hl.subset g1)with g | g
  ·exact hk.lt k g
  ·rw[List.mem_singleton,q1.n]at g;exact absurd g g2
 ·rcases jS hi (by rw[h0.len];exact hfQ)with⟨rfl,rfl⟩|⟨hne,hi⟩
  ·refine⟨s,hs,.inr ⟨fun hm=>?_,st2.lg,hlg,?_⟩⟩
   ·have:=(List.mem_filter.1 hm).2
    simp at this
   ·rw[yL q2 hp]
  ·refine⟨s',hi,.inl ⟨List.mem_filter.2 ⟨hl.symm.subset (List.mem_append_left _ (q1.full i ?_ hne)),by simpa using hne⟩,rfl⟩⟩
   rw[←h0.len];exact(List.getElem?_eq_some_iff.1 hi).1
theorem ib.ends{T Q Z f ip ik u:Nat}{RS:List Rg}{ps0 ps:List aq}(h0:cN T Q RS [] Z ps0)(h:ib T Q f ip ik u ps0 ps []):cN T Q (RS.filter fun x=> !aW ip ik x) [(ip,ik,u)] (Z+1000) ps:=by
 have ht:∀(i:Nat) (s:aq),ps[i]?=some s→∃s0,ps0[i]?=some s0∧yD ip ik u s0 s:=fun i s hs=>by
  obtain⟨s0,h1,⟨h2,_⟩|⟨_,h2⟩⟩:=h.pe i s hs
  ·cases h2
  ·exact⟨s0,h1,h2⟩
 refine⟨h.len,h0.q1,h0.q4,fun i s hs=>?_,?_⟩
 ·obtain⟨s0,h1,lg,h2,rfl⟩:=ht i s hs
  obtain⟨q1,q2,q3⟩:=h0.pe i s0 h1
  exact⟨⟨q1.n,q1.kn,q1.full,q1.op,q1.ws,q1.last,q1.tag,q1.wl⟩,rfl,by show lg≤_;omega⟩
 ·have e:ps.map (fun s=>s.st.sy)=ps0.map (fun s=>s.st.sy.filter fun x=> !aW ip ik x):=by
   refine List.ext_getElem? fun i=>?_
   rw[List.getElem?_map,List.getElem?_map]
   cases hi:ps[i]? with
   |none=>
    have:ps0[i]?=none:=List.getElem?_eq_none (by rw[h0.len,←h.len];exact List.getElem?_eq_none_iff.1 hi)
    rw[this];rfl
   |some s=>
    obtain⟨s0,h1,lg,_,rfl⟩:=ht i s hi
    rw[h1];rfl
  have e2:fV ps=(fV ps0).filter fun x=> !aW ip ik x:=by
   unfold fV
   rw[e,List.filter_flatten,List.map_map]
   rfl
  rw[e2]
  exact h0.all.filter _
end Go.Proofs.YtkimkgbppegkhaaGreat.Cm
