/- The clean machine's walks of peers (2): what is delivered; a peer made; one joined. · What decoding tells: the object's own symbols tell the object, or too little; more of them tell no less. No program is walked here. · What records are put, and where they go: plain laws. No program is walked here. -/
import Derived.Test.YtkimkgbppegkhaaGreatEa
import Derived.Test.YtkimkgbppegkhaaGreatGo
set_option linter.unusedVariables false
set_option linter.unusedSimpArgs false
namespace Go.Proofs.YtkimkgbppegkhaaGreat.Cm
open Go Go.RowKit Go.Proofs.YtkimkgbppegkhaaGreat.Gf
set_option maxRecDepth 1000000
abbrev bS:=ch bM 8
theorem bS.mono{X Y:Heap}{f:F}{l:List Lt}(hm:ab X Y)(h:bS X f l):bS Y f l:=ch.mono bM.mono hm h
theorem bS.one{X:Heap}{k a b c d e g:Nat}{fp fq:F}{ps:List Nat}{rs:List Rg}(h:X k=some (.cells [iN a,iN b,iN c,iN d,iN e,iN g,fp,fq] true))(hp:bo X fp ps)(hq:ck X fq rs):bS X (.sl k 0 8 1 none) [⟨a,b,c,d,e,g,ps,rs⟩]:=
 .inr ⟨k,0,none,_,true,rfl,h,sm,aA.one ⟨fp,fq,rfl,hp,hq⟩ rfl⟩
theorem bS.none{X:Heap}:bS X .sl0 []:=.inl ⟨rfl,rfl⟩
theorem bo.none{X:Heap}:bo X .sl0 []:=rfl
/-- what is delivered to another -/
def delL(n to:Nat)(rs:List Rg):List Lt:=if rs=[]∨to=n then[]else[⟨3,n,to,0,0,0,[],rs⟩]
def lX(n to:Nat)(st:bi)(rs:List Rg)(st2:bi):Prop:=if to=n then ce st rs st2 else st2=st
def eh(st:bi)(rs:List Rg):Prop:=∀i st1 r,rs[i]?=some r→ce st (rs.take i) st1→lQ st1 r
theorem uh{X:Heap}{n:Nat}{pid:Nat}{s:aq}{P0:List (Nat×O)}(hpe:bz X pid s P0){to:Nat}{f:F}{rs:List Rg}(hr:ck X f rs)(hok:∀r∈rs,dy r)(hpp:to=s.n→eh s.st rs)(hlr:rs.length<1000)(hlg:s.st.lg≤500000000):al 110 [vf (.ptr (pid) (0)),vi to,vf (f)] X n (P0) fun v X' P'=>∃g,v=vf g∧bS X' g (delL s.n to rs)∧∃st2,lX s.n to s.st rs st2∧st2.lg≤s.st.lg+rs.length*100∧bz X' pid {s with st:=st2} P':=by
 obtain⟨sid,tid,opf,lf,wf,Pw,Ps,Pt,Po,rfl,hw,hcw,hst,htk,hop⟩:=hpe
 refine al.of_to (Ps:=[[(pid,.cells [.ptr (sid) (0),.ptr (tid) (0),iN s.n,iN 9000,iN s.last,iN 0,iN s.tag,opf,lf,iN s.wl] true)],Pw,Ps,Pt,Po]) kr fun R H0 s0=>?_
 have hm0:ab X X:=ab.rfl
 refine ah 1 (aD 0 (ai 1 (ov 9 (lv rs.length hr.lenA) ?_)))
 rcases Nat.eq_zero_or_pos rs.length with h0 | h0
 ·refine ov 10 (eT rs.length 0) (ae 1 (iT (ah 1 (rt ?_))))
  obtain rfl:rs=[]:=List.eq_nil_of_length_eq_zero h0
  exact⟨.inr rfl,_,kr,X,_,aa.fin (Ps:=[_,_,_,_,_]) s0,hm0,.sl0,rfl,.inl ⟨rfl,by simp[delL]⟩,s.st,by unfold lX;split;exact .nil _;rfl,om,sid,tid,opf,lf,wf,Pw,Ps,Pt,Po,rfl,hw,hcw,hst,htk,hop⟩
 ·refine ov 10 (eF rs.length 0) ?_
  have hne:rs≠[]:=fun e=>by rw[e]at h0;exact absurd h0 sm
  by_cases hto:to=s.n
  ·refine ae 1 (iF (ai 4 (ov 16 (ld 2 (s0.at 0 rfl) rfl) (ov 17 (eT to s.n) ?_))))
   have G:=aa.outAt [] [] s0
   have G:=aa.pck [_] [_] [_,_,_,_,_] G
   refine ae 1 (iT (ai 2 ?_))
   obtain⟨_,W,_,_,P2,m,G,J,⟨rfl,st2,hq,hle,hpe⟩⟩:=(vF (s:=s) (P0:=cat [[(pid,.cells [.ptr (sid) (0),.ptr (tid) (0),iN s.n,iN 9000,iN s.last,iN 0,iN s.tag,opf,lf,iN s.wl] true)],Pw,Ps,Pt,Po]) ⟨sid,tid,opf,lf,wf,Pw,Ps,Pt,Po,rfl,hw,hcw,hst,htk,hop⟩ hr hok (hpp hto) hlr hlg).on [_] [_] G
   have hm0:=hm0.tr m
   refine ov 20 (J _ _) (aj (ah 1 (rt ?_)))
   exact⟨.inr rfl,_,kr,W,_,aa.fin1 G,hm0,.sl0,rfl,.inl ⟨rfl,by simp[delL,hto]⟩,st2,by unfold lX;rw[if_pos hto];exact hq,hle,hpe⟩
  ·refine ae 1 (iF (ai 4 (ov 16 (ld 2 (s0.at 0 rfl) rfl) (ov 17 (eF to s.n) ?_))))
   skip
   refine ae 1 (ar (nx (ai 3 (ov 24 (ld 2 (s0.at 0 rfl) rfl) (go 3 ?_)))))
   obtain⟨W,_,G,m1,f1,J⟩:=bj s0 (.cells [.int .i64 3,iN s.n,iN to,.int .i64 0,.int .i64 0,.int .i64 0,.sl0,f] true)
   have hm0:=hm0.tr m1
   have hst:=hst.mono m1
   have hop:=hop.mono m1
   have hr:=hr.mono m1
   refine ov 28 (J _ _ (vf (.sl (n) (0) 8 (1) none))) (ax 1 ?_)
   exact⟨.inr rfl,_,kr,W,_,aa.fin (Ps:=[_,_,_,_,_]) G,hm0,_,rfl,by rw[show delL s.n to rs=[(⟨3,s.n,to,0,0,0,[],rs⟩:Lt)]by simp[delL,hne,hto]];exact bS.one f1 bo.none hr,s.st,by unfold lX;rw[if_neg hto],om,sid,tid,opf,lf,wf,Pw,Ps,Pt,Po,rfl,hw,hcw,hst,htk,hop⟩
theorem Di{X:Heap}{n:Nat}  (ht:ap X n):bF 73 [vi 500] X n fun v X' M'=>∃sid,v=vf (.ptr sid 0)∧bZ X' sid ⟨[],[],0⟩ M':=by
 refine bF.of_to kr ?_
 have s0:aa X X n (cat [[]]):=aa.ini ht
 have hm0:ab X X:=ab.rfl
 refine ah 1 (ai 1 (ov 4 (dR (mx:=false) (x:=((500:Nat):Int)) (y:=(1000:Int)) (z:=(500:Int)) (by simp only[Bool.false_eq_true,if_false]; split<;>omega) kr) (ov 5 (dR (mx:=true) (x:=(0:Int)) (y:=(500:Int)) (z:=(500:Int)) (by simp only[if_true]; split<;>omega) kr) ?_)))
 obtain⟨_,s,J⟩:=ay s0 (.mp [])
 refine ov 6 (J _ _ (vf (.map (n)))) (go 1 ?_)
 obtain⟨_,s,J⟩:=ay s (.cells [.sl0,.int .i64 0,.int .i64 500,.sl0,.map (n)] true)
 refine ov 8 (J _ _ (vf (.ptr (n+1) (0)))) (ax 1 ?_)
 exact⟨.inr rfl,_,kr,X,_,s,hm0,_,rfl,.sl0,0,.sl0,n,[],[],[],[],rfl,av.nil 1,sm,av.nil 10,rfl⟩
theorem C7{X:Heap}{n:Nat}{k:Nat}(ht:ap X n):bF 57 [vi k,vi 500,vi 9000] X n fun v X' M'=>∃pid,v=vf (.ptr pid 0)∧bz X' pid ⟨k,0,0,0,[],⟨[],[],0⟩,[],none⟩ M':=by
 refine bF.of_to kr ?_
 have s0:aa X X n (cat [[]]):=aa.ini ht
 have hm0:ab X X:=ab.rfl
 refine ah 1 (ai 1 ?_)
 obtain⟨_,_,_,_,Ps,m,s,J,⟨sid,rfl,hst⟩⟩:=(Di s0.topX).on s0
 refine ov 8 (J _ _) (go 1 ?_)
 obtain⟨_,W,_,n1,Pt,m1,s,J,⟨tid,rfl,htk⟩⟩:=(C_ (k:=k) s.topX).on s
 have hm0:=hm0.tr (m.tr m1)
 have hst:=hst.mono m1
 refine ov 10 (J _ _) (go 2 (ov 13 (dR (mx:=false) (x:=((9000:Nat):Int)) (y:=(10000:Int)) (z:=(9000:Int)) (by simp only[Bool.false_eq_true,if_false]; split<;>omega) kr) (ov 14 (dR (mx:=true) (x:=(1:Int)) (y:=(9000:Int)) (z:=(9000:Int)) (by simp only[if_true]; split<;>omega) kr) (go 1 ?_))))
 obtain⟨_,s,J⟩:=ay s (.cells [.ptr (sid) (0),.ptr (tid) (0),iN k,.int .i64 9000,.int .i64 0,.int .i64 0,.int .i64 0,.sl0,.sl0,.int .i64 0] true)
 refine ov 16 (J _ _ (vf (.ptr (n1) (0)))) (ax 1 ?_)
 exact⟨.inr rfl,_,kr,W,_,s,hm0,n1,rfl,sid,tid,.sl0,.sl0,[],[],Ps,Pt,[],by simp[cat],av.nil 4,rfl,hst,htk,av.nil 1⟩
theorem DG{X:Heap}{n:Nat}{pid:Nat}{s:aq}{P0:List (Nat×O)}(hpe:bz X pid s P0){now k:Nat}(hS:s.kn.length<1000)(hlt:k≠s.n→k∉s.kn→s.kn.length<3):al 80 [vf (.ptr (pid) (0)),vi now,vi k] X n (P0) fun v X' P'=>∃g,v=vf g∧bS X' g (if k=s.n then[]else[⟨1,s.n,k,0,0,0,[],[]⟩])∧bz X' pid {s with kn:=if k=s.n then s.kn else bp s.n s.kn k} P':=by
 obtain⟨sid,tid,opf,lf,wf,Pw,Ps,Pt,Po,rfl,hw,hcw,hst,htk,hop⟩:=hpe
 refine al.of_to (Ps:=[[(pid,.cells [.ptr (sid) (0),.ptr (tid) (0),iN s.n,iN 9000,iN s.last,iN 0,iN s.tag,opf,lf,iN s.wl] true)],Pw,Ps,Pt,Po]) kr fun R H0 s0=>?_
 have hm0:ab X X:=ab.rfl
 refine ah 1 (aP 4 (ov 11 (lF k 0) ?_))
 by_cases hk:k=s.n
 ·refine go 6 (ov 18 (ld 2 (s0.at 0 rfl) rfl) (ov 19 (eT k s.n) (ae 1 (iT (ah 1 (rt ?_))))))
  exact⟨.inr rfl,_,kr,X,_,aa.fin (Ps:=[_,_,_,_,_]) s0,hm0,.sl0,rfl,by rw[if_pos hk];exact bS.none,by rw[if_pos hk];exact⟨sid,tid,opf,lf,wf,Pw,Ps,Pt,Po,rfl,hw,hcw,hst,htk,hop⟩⟩
 ·refine go 6 (ov 18 (ld 2 (s0.at 0 rfl) rfl) (ov 19 (eF k s.n) (ae 1 (ar (nx (ai 3 (ov 24 (ld 1 (s0.at 0 rfl) rfl) (go 1 ?_))))))))
  obtain⟨_,_,_,n1,Pt2,m,G,J,⟨rfl,htk⟩⟩:=(jH (k:=k) htk hS hlt).on [_,_,_] [_,_] s0
  refine ov 26 (J _ _) (aj (ai 3 (ov 30 (ld 2 (G.at 0 rfl) rfl) (go 2 ?_))))
  obtain⟨W,_,G,m1,f,J⟩:=bj G (.cells [.int .i64 1,iN s.n,iN k,.int .i64 0,.int .i64 0,.int .i64 0,.sl0,.sl0] true)
  have hm0:=hm0.tr (m.tr m1)
  have hst:=hst.mono (m.tr m1)
  have hop:=hop.mono (m.tr m1)
  refine ov 33 (J _ _ (vf (.sl (n1) (0) 8 (1) none))) (ax 1 ?_)
  exact⟨.inr rfl,_,kr,W,_,aa.fin (Ps:=[_,_,_,_,_]) G,hm0,_,rfl,by rw[if_neg hk];exact bS.one f bo.none (.inl ⟨rfl,rfl⟩),by rw[if_neg hk];exact⟨sid,tid,opf,lf,wf,Pw,Ps,Pt2,Po,rfl,hw,hcw,hst,htk,hop⟩⟩
/-- an object's own symbol -/
def l4(N:Nat)(bl:List (Nat×List (List Nat)))(r:Rc):Prop:=∃q,bl[r.b]?=some q∧r.d=a9 N (cO q.1 r.e) q.2
theorem i0.tells{data:List Nat}{B N M i:Nat}{q:Nat×List (List Nat)}(hb:B8 data)(hS:b7 B N M)(hi:i<blkS B N M)(h:i0 data B N M i q):
 (∀r∈lowR q.1++highR q.1,a9 N r q.2=zs N)∧∀e,e<q.1→a9 N (cO q.1 e) q.2=j5 data N (cM (bn B N) M i+e):=by
 obtain⟨h1,h2⟩:=h
 have hk:=(dq hS).2.2 i hi
 have k1:1≤q.1:=by omega
 have k8:q.1≤8:=by omega
 have hm:=k7 k1 k8 (List.range q.1)
 have hd:Mx (List.range q.1).length N (eU data N (bn B N) M i):=by rw[List.length_range,h1];exact rY hb _ _ _ _
 have hr:=h2.right hm (lh hd)
 have hl:=mT k1 k8
 have hh:=mK k1 k8
 unfold eS dB at hr
 rw[List.map_append]at hr
 have hlen:(List.replicate (sK q.1+2) (zs N)).length=((lowR q.1++highR q.1).map fun r=>a9 N r q.2).length:=by simp[hl.1,hh.1]
 have hr1:=List.append_inj_left hr hlen
 have hr2:=List.append_inj_right hr hlen
 refine⟨fun r hr=>?_,fun e he=>?_⟩
 ·have:a9 N r q.2∈List.replicate (sK q.1+2) (zs N):=by rw[hr1];exact List.mem_map_of_mem hr
  exact List.eq_of_mem_replicate this
 ·have h3:=congrArg (fun l:List (List Nat)=>l[e]?) hr2
  simp only[eU,List.getElem?_map]at h3
  rw[List.getElem?_range (show e<kN (bn B N) M i by have:q.1=kN (bn B N) M i:=h1;omega),List.getElem?_range he]at h3
  simp only[Option.map_some,Option.some.injEq]at h3
  exact h3.symm
theorem GJ{l:List (Nat×List Nat)}{e:Nat}:e∈(dd l).map (·.1)↔e∈l.map (·.1):=by
 have:∀(l acc:List (Nat×List Nat)),e∈(l.foldl (fun acc p=>if acc.any (fun q=>q.1 == p.1)then acc else acc++[p]) acc).map (·.1)↔e∈acc.map (·.1)∨e∈l.map (·.1):=by
  intro l
  induction l with
  |nil=>intro acc;simp
  |cons x l ih=>
   intro acc
   rw[List.foldl_cons,ih]
   split
   ·rename_i hany
    rw[List.any_eq_true]at hany
    obtain⟨q,hq,he⟩:=hany
    have he:q.1=x.1:=by simpa using he
    constructor
    ·rintro (h | h)
     ·exact .inl h
     ·exact .inr (by simp at h⊢;exact .inr h)
    ·rintro (h | h)
     ·exact .inl h
     ·simp only[List.map_cons,List.mem_cons]at h
      rcases h with rfl | h
      ·exact .inl (by rw[←he];exact List.mem_map_of_mem hq)
      ·exact .inr h
   ·rw[List.map_append]
    simp only[List.mem_append,List.map_cons,List.map_nil,List.mem_cons,List.not_mem_nil,or_false]
    constructor
    ·rintro ((h | h) | h)
     ·exact .inl h
     ·exact .inr (.inl h)
     ·exact .inr (.inr h)
    ·rintro (h | h | h)
     ·exact .inl (.inl h)
     ·exact .inl (.inr h)
     ·exact .inr h
 have h:=this l []
 simp only[List.map_nil,List.not_mem_nil,false_or]at h
 exact h
theorem xB{data:List Nat}{B N M i:Nat}{q:Nat×List (List Nat)}(hb:B8 data)(hS:b7 B N M)(hi:i<blkS B N M)(h:i0 data B N M i q){l:List (Nat×List Nat)}(hl:∀p∈l,p.2=a9 N (cO q.1 p.1) q.2):
 dD q.1 N l=(dM q.1 l).map fun r=>a9 N r q.2:=by
 have hk:=(dq hS).2.2 i hi
 have hq:=h.1
 have k1:1≤q.1:=by omega
 have k8:q.1≤8:=by omega
 obtain⟨h1,_⟩:=h.tells hb hS hi
 unfold dD dM eS dB
 rw[List.map_append]
 congr 1
 ·symm
  rw[List.eq_replicate_iff]
  refine⟨by simp[(mT k1 k8).1,(mK k1 k8).1],fun r hr=>?_⟩
  obtain⟨r',hr',rfl⟩:=List.mem_map.1 hr
  exact h1 r' hr'
 ·rw[List.map_map,List.map_map]
  refine List.map_congr_left fun p hp=>?_
  exact hl p (pD hp)
theorem xQ{N:Nat}{bl:List (Nat×List (List Nat))}{rs:List Rc}{i:Nat}{q:Nat×List (List Nat)}(hq:bl[i]?=some q)(ho:∀r∈rs,l4 N bl r):∀p∈drp rs i,p.2=a9 N (cO q.1 p.1) q.2:=fun p hp=>by
 obtain⟨r,hr,rfl,rfl⟩:=mI hp
 obtain⟨q',h1,h2⟩:=ho r hr
 rw[hq]at h1
 cases h1
 exact h2
theorem l6.parts{data:List Nat}{B N M i:Nat}{bl:List (Nat×List (List Nat))}{q q':Nat×List (List Nat)}{rs:List Rc}(hb:B8 data)(hS:b7 B N M)(hi:i<blkS B N M)(hq:bl[i]?=some q)(h:i0 data B N M i q)(ho:∀r∈rs,l4 N bl r)(hok:gZ B N M rs)(hd:l6 rs B N M i q'):q'=q:=by
 have hk:=(dq hS).2.2 i hi
 have e1:q'.1=q.1:=by rw[hd.1,h.1]
 have k1:1≤q.1:=by have:=h.1;omega
 have k8:q.1≤8:=by have:=h.1;omega
 have hs:=hd.2
 rw[e1]at hs
 have hm:=k7 k1 k8 ((dd (drp rs i)).map (·.1))
 have hdm:Mx (dL q.1 (drp rs i)) N (dD q.1 N (drp rs i)):=lh (mZ fun p hp=>by
  obtain⟨r,hr,_,rfl⟩:=mI hp
  exact(hok r hr).2.2)
 have hmx:=h.mx hb
 have:=hs.one hm hdm hmx.1 hmx.2 (xB hb hS hi h (xQ hq ho))
 exact Prod.ext e1 this
theorem EX{data:List Nat}{N t:Nat}(hb:B8 data):j5 data N t=((data.drop (t*N)).take N)++zs (N-((data.drop (t*N)).take N).length):=by
 unfold j5
 show aX (zs N) _=_
 have:∀(r:List Nat) (n:Nat),r.length≤n→aX (zs n) r=r++zs (n-r.length):=by
  intro r
  induction r with
  |nil=>intro n _;rw[oo];simp
  |cons x r ih=>
   intro n hn
   cases n with
   |zero=>simp at hn
   |succ n=>
    show(0 ^^^ x)::aX (zs n) r=_
    rw[Nat.zero_xor,ih n (by simpa using hn)]
    simp
 exact this _ _ (by rw[List.length_take];omega)
theorem yb{data:List Nat}{N:Nat}(hb:B8 data):∀(t:Nat),t*N≤data.length+N→∃z,((List.range t).map (j5 data N)).flatten=data.take (t*N)++zs z∧(t*N≤data.length→z=0)
 |0,_=>⟨0,sm,fun _=>rfl⟩
 |t+1,h=>by
  rw[Nat.add_mul,Nat.one_mul]at h
  obtain⟨z,h1,h2⟩:=yb (N:=N) hb t om
  have hz:z=0:=h2 om
  subst hz
  refine⟨N-((data.drop (t*N)).take N).length,?_,fun hle=>?_⟩
  ·rw[mg,List.flatten_append,h1,List.flatten_cons,List.flatten_nil,List.append_nil,EX hb]
   rw[show zs 0=[]from rfl,List.append_nil,←List.append_assoc]
   congr 1
   rw[Nat.add_mul,Nat.one_mul,List.take_add]
  ·rw[Nat.add_mul,Nat.one_mul]at hle
   rw[List.length_take,List.length_drop]
   omega
theorem vY{data:List Nat}{N s M:Nat}:∀(b:Nat),dX ((List.range b).map (eU data N s M))=((List.range (cM s M b)).map (j5 data N)).flatten
 |0=>rfl
 |b+1=>by
  rw[mg,qZ,vY b,cM]
  rw[List.range_add,List.map_append,List.flatten_append]
  congr 1
  unfold eU
  rw[List.map_map]
  rfl
theorem C8{data:List Nat}{B N M:Nat}(hb:B8 data)(hB:data.length=B)(hS:b7 B N M):(dX (jm data N (bn B N) M)).take B=data:=by
 have h1:=fQ hS
 have hk:=dq hS
 unfold jm
 rw[vY,show cM (bn B N) M (gz (bn B N) M)=bn B N from hk.2.1]
 have hle:bn B N*N≤data.length+N:=by
  have e:=Nat.div_mul_le_self (B-1) N
  have:bn B N*N=(B-1)/N*N+N:=by show((B-1)/N+1)*N=_;rw[Nat.add_mul,Nat.one_mul]
  omega
 obtain⟨z,h2,_⟩:=yb hb (bn B N) hle
 rw[h2,List.take_of_length_le (show data.length≤bn B N*N by omega),←hB]
 simp
theorem gV.data{data:List Nat}{B N M:Nat}{bl ql:List (Nat×List (List Nat))}{rs:List Rc}(hb:B8 data)(hB:data.length=B)(hS:b7 B N M)(hbl:bl.length=blkS B N M)(hA:eQ data B N M bl)(ho:∀r∈rs,l4 N bl r)(hok:gZ B N M rs)(hql:ql.length=blkS B N M)(hd:gV rs B N M ql):
 (dX (ql.map (gY N))).take B=data:=by
 have e:ql.map (gY N)=jm data N (bn B N) M:=by
  unfold jm
  apply List.ext_getElem?
  intro i
  rw[List.getElem?_map,List.getElem?_map]
  rcases Nat.lt_or_ge i (blkS B N M)with hi | hi
  ·have e1:ql[i]?=some ql[i]:=List.getElem?_eq_getElem om
   have e2:bl[i]?=some bl[i]:=List.getElem?_eq_getElem om
   have h1:=(hd i _ e1).parts hb hS hi e2 (hA i _ e2) ho hok
   have h2:=hA i _ e2
   rw[e1,Option.map_some,List.getElem?_range hi,Option.map_some,h1]
   congr 1
   unfold gY eU
   rw[h2.1]
   refine List.map_congr_left fun j hj=>?_
   have:=(h2.tells hb hS hi).2 j (by rw[h2.1];exact List.mem_range.1 hj)
   rw[h2.1]at this
   exact this
  ·rw[List.getElem?_eq_none om,List.getElem?_eq_none (by simpa using hi)]
   rfl
 rw[e]
 exact C8 hb hB hS
theorem GE{data:List Nat}{B N M i:Nat}{bl:List (Nat×List (List Nat))}{q:Nat×List (List Nat)}{rs:List Rc}(hb:B8 data)(hS:b7 B N M)(hi:i<blkS B N M)(hq:bl[i]?=some q)(h:i0 data B N M i q)(ho:∀r∈rs,l4 N bl r)(hok:gZ B N M rs)
 {es:List Nat} {len:Nat} {d out:List (List Nat)} (hs:dV (lK q.1) N len (dB q.1 es) d out) (hlen:sK q.1+2+es.length=len) (hes:∀e∈es,e∈(drp rs i).map (·.1)):¬fO (lK q.1) N (dL q.1 (drp rs i)) (dM q.1 (drp rs i)) (dD q.1 N (drp rs i)):=by
 intro hu
 have hk:=(dq hS).2.2 i hi
 have k1:1≤q.1:=by have:=h.1;omega
 have k8:q.1≤8:=by have:=h.1;omega
 have hm:=k7 k1 k8 ((dd (drp rs i)).map (·.1))
 have hdm:Mx (dL q.1 (drp rs i)) N (dD q.1 N (drp rs i)):=lh (mZ fun p hp=>by
  obtain⟨r,hr,_,rfl⟩:=mI hp
  exact(hok r hr).2.2)
 have hmx:=h.mx hb
 obtain⟨ys,y1,y2,y3,y4⟩:=hu.null hm hdm hmx.1 hmx.2 (xB hb hS hi h (xQ hq ho))
 have hme:=k7 k1 k8 es
 rw[hlen]at hme
 refine y4 (hs.inj hme y1 y2 ?_)
 rw[List.eq_replicate_iff]
 refine⟨by rw[List.length_map,hme.1],fun r hr=>?_⟩
 obtain⟨r',hr',rfl⟩:=List.mem_map.1 hr
 have hin:r'∈dM q.1 (drp rs i):=by
  unfold dM
  unfold dB at hr'⊢
  rcases List.mem_append.1 hr' with h1 | h1
  ·exact List.mem_append.2 (.inl h1)
  ·obtain⟨e,he,rfl⟩:=List.mem_map.1 h1
   exact List.mem_append.2 (.inr (List.mem_map_of_mem (GJ.2 (hes e he))))
 have:a9 1 r' ys∈(dM q.1 (drp rs i)).map fun r=>a9 1 r ys:=List.mem_map.2 ⟨r',hin,rfl⟩
 rw[y3]at this
 exact List.eq_of_mem_replicate this
theorem kR{N x:Nat}{bl:List (Nat×List (List Nat))}:∀(i:Nat),i≤bl.length→∀r∈recU N x bl i,∃q,r.b<i∧bl[r.b]?=some q∧r.e<q.1+x∧r.d=a9 N (cO q.1 r.e) q.2
 |0,_,r,h=>by cases h
 |i+1,hi,r,h=>by
  simp only[recU]at h
  rcases List.mem_append.1 h with h | h
  ·obtain⟨q,h1,h2⟩:=kR i om r h
   exact⟨q,om,h2⟩
  ·have e:bl[i]?=some bl[i]:=List.getElem?_eq_getElem om
   rw[e,Option.getD_some]at h
   unfold lS at h
   obtain⟨j,hj,rfl⟩:=List.mem_map.1 h
   exact⟨_,sm,e,List.mem_range.1 hj,rfl⟩
theorem xc{N x:Nat}{bl:List (Nat×List (List Nat))}:∀(n i e:Nat) (q:Nat×List (List Nat)),n≤bl.length→i<n→bl[i]?=some q→e<q.1+x→e∈(drp (recU N x bl n) i).map (·.1)
 |0,i,e,q,_,h,_,_=>by omega
 |n+1,i,e,q,hn,hi,hq,he=>by
  have hd:∀(l k:List Rc),drp (l++k) i=drp l i++drp k i:=fun l k=>by unfold drp;rw[List.filter_append,List.map_append]
  simp only[recU]
  rw[hd,List.map_append,List.mem_append]
  by_cases h:i=n
  ·subst h
   right
   rw[hq,Option.getD_some]
   refine List.mem_map.2 ⟨(e,a9 N (cO q.1 e) q.2),?_,rfl⟩
   unfold drp lS
   refine List.mem_map.2 ⟨⟨i,e,a9 N (cO q.1 e) q.2⟩,List.mem_filter.2 ⟨List.mem_map.2 ⟨e,List.mem_range.2 he,rfl⟩,sm⟩,rfl⟩
  ·left
   exact xc n i e q om om hq he
theorem pz{data:List Nat}{B N M x:Nat}{bl:List (Nat×List (List Nat))}(hb:B8 data)(hS:b7 B N M)(hx:x≤4)(hbl:bl.length=blkS B N M)(hA:eQ data B N M bl):(∀r∈recU N x bl bl.length,l4 N bl r)∧gZ B N M (recU N x bl bl.length):=by
 refine⟨fun r hr=>?_,fun r hr=>?_⟩
 ·obtain⟨q,h1,h2,h3,h4⟩:=kR bl.length (Nat.le_refl _) r hr
  exact⟨q,h2,h4⟩
 ·obtain⟨q,h1,h2,h3,h4⟩:=kR bl.length (Nat.le_refl _) r hr
  have hq:=hA _ _ h2
  have hk:=(dq hS).2.2 r.b om
  have e:=hq.1
  rw[←e]at hk⊢
  refine⟨oL hk.1 hk.2 om,om,?_⟩
  rw[h4]
  exact mF (iC _ _).2 (hq.mx hb).2
noncomputable def aY(ip ik u B N M:Nat)(r:Rc):Rg:=.sy ip ik u B N M r.b r.e r.d
theorem aA.map{α β:Type}{R:α→List F→Prop}{S:β→List F→Prop}{sz:Nat}{g:α→β}(hg:∀a c,R a c→S (g a) c):∀{l:List α} {fs:List F},aA R sz l fs→aA S sz (l.map g) fs
 |[],_,h=>h
 |_::_,_,h=>by
  obtain⟨c,r,h1,h2,h3,h4⟩:=h
  exact⟨c,r,h1,h2,hg _ _ h3,aA.map hg h4⟩
theorem sY{X:Heap}{ip ik u B N M:Nat}{f:F}{l:List Rc}(h:j3 ip ik u B N M X f l):ck X f (l.map (aY ip ik u B N M)):=by
 rcases h with⟨rfl,rfl⟩|⟨id,off,cap,all,ex,rfl,h1,h2,h3⟩
 ·exact .inl ⟨rfl,rfl⟩
 ·exact .inr ⟨id,off,cap,all,ex,by rw[List.length_map],h1,by rw[List.length_map];exact h2,by rw[List.length_map];exact aA.map (g:=aY ip ik u B N M) (S:=aV X) (fun _ _ h=>h) h3⟩
/-- what goes to the others, and what stays -/
def outL(n:Nat):List Nat→List (List Rg)→List Lt
 |a::l,r::rows=>delL n a r++outL n l rows
 |_,_=>[]
def ownL(n:Nat):List Nat→List (List Rg)→List Rg
 |a::l,r::rows=>(if a=n then r else[])++ownL n l rows
 |_,_=>[]
theorem uw{n:Nat}:∀{l l2:List Nat} {r r2:List (List Rg)},l.length=r.length→outL n (l++l2) (r++r2)=outL n l r++outL n l2 r2
 |[],_,[],_,_=>rfl
 |a::l,l2,b::r,r2,h=>by
  show delL n a b++outL n (l++l2) (r++r2)=(delL n a b++outL n l r)++_
  rw[uw (by simpa using h),List.append_assoc]
 |[],_,_::_,_,h=>by simp at h
 |_::_,_,[],_,h=>by simp at h
theorem qI{n:Nat}:∀{l l2:List Nat} {r r2:List (List Rg)},l.length=r.length→ownL n (l++l2) (r++r2)=ownL n l r++ownL n l2 r2
 |[],_,[],_,_=>rfl
 |a::l,l2,b::r,r2,h=>by
  show(if a=n then b else[])++ownL n (l++l2) (r++r2)=((if a=n then b else[])++ownL n l r)++_
  rw[qI (by simpa using h),List.append_assoc]
 |[],_,_::_,_,h=>by simp at h
 |_::_,_,[],_,h=>by simp at h
theorem EJ{n a:Nat}{r:List Rg}:outL n [a] [r]=delL n a r:=List.append_nil _
theorem Fg{n a:Nat}{r:List Rg}:ownL n [a] [r]=if a=n then r else[]:=List.append_nil _
theorem vR{n i a:Nat}{l:List Nat}{rows:List (List Rg)}{r:List Rg}(hl:rows.length=l.length)(ha:l[i]?=some a)(hr:rows[i]?=some r):outL n (l.take (i+1)) (rows.take (i+1))=outL n (l.take i) (rows.take i)++delL n a r:=by
 rw[bU ha,bU hr,uw (by simp[hl]),EJ]
theorem vK{n i a:Nat}{l:List Nat}{rows:List (List Rg)}{r:List Rg}(hl:rows.length=l.length)(ha:l[i]?=some a)(hr:rows[i]?=some r):ownL n (l.take (i+1)) (rows.take (i+1))=ownL n (l.take i) (rows.take i)++if a=n then r else[]:=by
 rw[bU ha,bU hr,qI (by simp[hl]),Fg]
theorem Ca{n i:Nat}{l:List Nat}{rows:List (List Rg)}(hl:rows.length=l.length):∃t,ownL n l rows=ownL n (l.take i) (rows.take i)++t:=by
 refine⟨ownL n (l.drop i) (rows.drop i),?_⟩
 rw[←qI (by simp[hl]),List.take_append_drop,List.take_append_drop]
theorem rE{n:Nat}:∀(l:List Nat) (rows:List (List Rg)),(ownL n l rows).Sublist rows.flatten
 |a::l,r::rows=>by
  show((if a=n then r else[])++ownL n l rows).Sublist (r++rows.flatten)
  refine List.Sublist.append ?_ (rE l rows)
  split
  ·exact List.Sublist.refl _
  ·exact List.nil_sublist _
 |[],_=>List.nil_sublist _
 |_::_,[]=>List.Sublist.refl _
theorem ce.append{st st1 st2:bi}{rs rs2:List Rg}(h:ce st rs st1)(g:ce st1 rs2 st2):ce st (rs++rs2) st2:=by
 induction g with
 |nil=>rw[List.append_nil];exact h
 |snoc _ q ih=>rw[←List.append_assoc];exact ih.snoc q
theorem ce.inv0{st st1:bi}(h:ce st [] st1):st1=st:=by
 generalize hr:([]:List Rg)=rs at h
 cases h with
 |nil=>rfl
 |snoc h q=>simp at hr
theorem ce.inv{st st2:bi}{rs:List Rg}{r:Rg}(h:ce st (rs++[r]) st2):∃st1,ce st rs st1∧iW st1 st2 r:=by
 generalize hr:rs++[r]=l at h
 cases h with
 |nil=>simp at hr
 |snoc h q=>
  obtain⟨h1,h2⟩:=List.append_inj' hr rfl
  cases h2
  subst h1
  exact⟨_,h,q⟩
theorem eh.head{st:bi}{rs rs2:List Rg}(h:eh st (rs++rs2)):eh st rs:=fun i st1 r hr hp=>by
 have hi:=(List.getElem?_eq_some_iff.1 hr).1
 exact h i st1 r (by rw[List.getElem?_append_left hi];exact hr) (by rw[List.take_append_of_le_length om];exact hp)
theorem eh.tail{st st1:bi}{rs rs2:List Rg}(h:eh st (rs++rs2))(h1:ce st rs st1):eh st1 rs2:=fun i st2 r hr hp=>
 h (rs.length+i) st2 r (by rw[List.getElem?_append_right om,Nat.add_sub_cancel_left];exact hr) (by rw[List.take_length_add_append];exact h1.append hp)
/-- symbols that may be added -/
structure qk(st:bi)(rs:List Rg):Prop where
 sy:∀r∈rs,c5 r
 gone:∀r∈rs,bK st.gone (bu r).1 (bu r).2=none
 key:(rs.map bA).Nodup
 dis:∀r∈rs,∀x∈st.sy,bA x≠bA r
 len:rs.length+st.sy.length≤500
theorem rC{st st1:bi}{rs:List Rg}(h:ce st rs st1)(hs:∀r∈rs,c5 r):st1.gone=st.gone∧st1.sy.Perm (rs++st.sy):=by
 induction h with
 |nil=>exact⟨rfl,List.Perm.refl _⟩
 |@snoc st1 st2 rs r h q ih=>
  obtain⟨i1,i2⟩:=ih fun r hr=>hs r (by simp[hr])
  cases r with
  |sy ip ik u B N M b e d=>
   obtain⟨q1,q2⟩:=q
   refine⟨q1.trans i1,q2.trans ((i2.cons _).trans ?_)⟩
   rw[List.append_assoc]
   exact List.perm_middle.symm
  |tb ip ik u=>exact(hs _ sm:c5 (.tb ip ik u)).elim
theorem qk.ok{st:bi}{rs:List Rg}(h:qk st rs):eh st rs:=fun i st1 r hr hp=>by
 have hm:=List.mem_of_getElem? hr
 have hi:=(List.getElem?_eq_some_iff.1 hr).1
 obtain⟨g1,g2⟩:=rC hp fun r hr=>h.sy r (List.mem_of_mem_take hr)
 have hd:∀x∈st1.sy,bA x≠bA r:=fun x hx=>by
  rcases List.mem_append.1 (g2.subset hx)with hx | hx
  ·have e:rs=rs.take i++(r::rs.drop (i+1)):=by
    have e2:=List.take_append_drop (i+1) rs
    rw[bU hr,List.append_assoc]at e2
    exact e2.symm
   have hk:=h.key
   rw[e,List.map_append,List.nodup_append]at hk
   exact hk.2.2 _ (List.mem_map.2 ⟨x,hx,rfl⟩) _ (List.mem_map.2 ⟨r,sm,rfl⟩)
  ·exact h.dis r hm x hx
 have hl:st1.sy.length<500:=by
  have h1:=g2.length_eq
  have h2:=h.len
  rw[List.length_append,List.length_take]at h1
  omega
 have hg:=h.gone r hm
 rw[←g1]at hg
 have hs:=h.sy r hm
 cases r with
 |sy ip ik u B N M b e d=>exact⟨hg,hd,hl⟩
 |tb ip ik u=>exact hs.elim
theorem xL{st:bi}{ip ik u:Nat}(hg:bK st.gone ip ik=none)(hl:st.sy.length<500):eh st [.tb ip ik u]:=fun i st1 r hr hp=>by
 have hi:i=0:=by have:=(List.getElem?_eq_some_iff.1 hr).1;simpa using this
 subst hi
 simp at hr
 subst hr
 rw[hp.inv0]
 exact⟨hg,hl⟩
theorem Dp{st st1:bi}{ip ik u:Nat}(h:ce st [.tb ip ik u] st1):st1.gone=st.gone++[(ip,ik,u)]∧st1.sy=st.sy.filter fun x=> !aW ip ik x:=by
 obtain⟨st2,h1,h2⟩:=ce.inv (rs:=[]) h
 rw[h1.inv0]at h2
 exact h2
theorem mq{data:List Nat}{N x B M:Nat}{bl:List (Nat×List (List Nat))}(hA:eQ data B N M bl):∀i,i≤bl.length→(recU N x bl i).length=cM (bn B N) M i+i*x
 |0,_=>by simp[recU,cM]
 |i+1,h=>by
  have e:bl[i]?=some bl[i]:=List.getElem?_eq_getElem om
  have hk:=(hA _ _ e).1
  show(recU N x bl i++lS N x i ((bl[i]?).getD (0,[]))).length=_
  rw[List.length_append,mq hA i om,e,Option.getD_some]
  show _+(List.map _ (List.range (bl[i].1+x))).length=cM (bn B N) M i+kN (bn B N) M i+(i+1)*x
  rw[List.length_map,List.length_range,hk,Nat.add_mul]
  show _+(kN (bn B N) M i+x)=_
  omega
theorem rd{N x:Nat}{bl:List (Nat×List (List Nat))}:∀i,i≤bl.length→((recU N x bl i).map fun r=>(r.b,r.e)).Nodup
 |0,_=>List.nodup_nil
 |i+1,h=>by
  show((recU N x bl i++lS N x i ((bl[i]?).getD (0,[]))).map fun r=>(r.b,r.e)).Nodup
  rw[List.map_append,List.nodup_append]
  refine⟨rd i om,?_,fun a ha b hb=>?_⟩
  ·show(List.map _ (List.map _ (List.range _))).Nodup
   rw[List.map_map]
   exact List.pairwise_map.2 (List.nodup_range.imp fun h e=>h (by simpa using e))
  ·obtain⟨r,hr,rfl⟩:=List.mem_map.1 ha
   obtain⟨q,h1,_⟩:=kR i om r hr
   obtain⟨r2,hr2,rfl⟩:=List.mem_map.1 hb
   obtain⟨e,_,rfl⟩:=List.mem_map.1 hr2
   intro e
   have:=congrArg Prod.fst e
   simp only at this
   omega
theorem rA{n a:Nat}{r:List Rg}:(delL n a r).length≤1:=by unfold delL; split<;>simp
theorem kW{n:Nat}:∀(l:List Nat) (rows:List (List Rg)),(outL n l rows).length≤l.length
 |a::l,r::rows=>by
  show(delL n a r++outL n l rows).length≤_
  have:=kW (n:=n) l rows
  have:=rA (n:=n) (a:=a) (r:=r)
  rw[List.length_append,List.length_cons]
  omega
 |[],_=>Nat.zero_le _
 |_::_,[]=>Nat.zero_le _
theorem xf{st st1:bi}{n i a:Nat}{l:List Nat}{rows:List (List Rg)}{r:List Rg}(hall:eh st (ownL n l rows))(hl:rows.length=l.length)(ha:l[i]?=some a)(hr:rows[i]?=some r)(hq:ce st (ownL n (l.take i) (rows.take i)) st1)(e:a=n):eh st1 r:=by
 obtain⟨t,ht⟩:=Ca (n:=n) (i:=i+1) hl
 rw[ht,vK hl ha hr,if_pos e]at hall
 exact hall.head.tail hq
theorem vJ{st st1 st2:bi}{n i a:Nat}{l:List Nat}{rows:List (List Rg)}{r:List Rg}(hl:rows.length=l.length)(ha:l[i]?=some a)(hr:rows[i]?=some r)(hq:ce st (ownL n (l.take i) (rows.take i)) st1)(hd:lX n a st1 r st2):ce st (ownL n (l.take (i+1)) (rows.take (i+1))) st2:=by
 rw[vK hl ha hr]
 unfold lX at hd
 split at hd
 ·rename_i h;rw[if_pos h];exact hq.append hd
 ·rename_i h;rw[if_neg h,List.append_nil,hd];exact hq
theorem xU{st:bi}{n ip ik u B N M:Nat}{l:List Nat}{rows:List (List Rc)}{data:List Nat}{bl:List (Nat×List (List Nat))}(hB8:B8 data)(h:b7 B N M)(hbl:bl.length=blkS B N M)(hA:eQ data B N M bl)(hr:rows.flatten.Perm (recU N 2 bl bl.length))
 (h1:ip≤2147483647) (h2:1≤ik) (h3:ik≤2147483647) (h4:u≤2147483647) (hg:bK st.gone ip ik=none) (hd:∀x∈st.sy,bu x≠(ip,ik)) (hsy:st.sy.length≤300):
 (∀r∈rows.flatten,c5 (aY ip ik u B N M r))∧eh st (ownL n l (rows.map (List.map (aY ip ik u B N M)))):=by
 obtain⟨ho,hk⟩:=pz (x:=2) hB8 h om hbl hA
 have hs:∀r∈rows.flatten,c5 (aY ip ik u B N M r):=fun r hx=>by
  have hx:=hr.subset hx
  obtain⟨q,g1,_⟩:=kR bl.length (Nat.le_refl _) r hx
  obtain⟨_,g2,g3⟩:=hk r hx
  exact⟨⟨h1,h2,h3,h4,h,om,om⟩,g3.1⟩
 have hsub:=rE (n:=n) l (rows.map (List.map (aY ip ik u B N M)))
 rw[←List.map_flatten]at hsub
 have hm:∀r∈ownL n l (rows.map (List.map (aY ip ik u B N M))),∃q∈rows.flatten,r=aY ip ik u B N M q:=fun r hx=>by
  obtain⟨q,h1,h2⟩:=List.mem_map.1 (hsub.subset hx)
  exact⟨q,h1,h2.symm⟩
 refine⟨hs,qk.ok ⟨fun r hx=>?_,fun r hx=>?_,?_,fun r hx x hxs=>?_,?_⟩⟩
 ·obtain⟨q,g1,rfl⟩:=hm r hx;exact hs q g1
 ·obtain⟨q,g1,rfl⟩:=hm r hx;exact hg
 ·refine(hsub.map bA).nodup ?_
  rw[List.map_map]
  have hn:=rd (N:=N) (x:=2) (bl:=bl) bl.length (Nat.le_refl _)
  have hn2:=(hr.map fun r=>(r.b,r.e)).nodup_iff.2 hn
  refine List.pairwise_map.2 ((List.pairwise_map.1 hn2).imp fun h e=>h ?_)
  have e:(ip,ik,_,_)=(ip,ik,_,_):=e
  injection e with _ e
  injection e with _ e
 ·obtain⟨q,g1,rfl⟩:=hm r hx
  intro e
  refine hd x hxs ?_
  have e:bA x=(ip,ik,q.b,q.e):=e
  cases x with
  |sy a b c d e f g h i=>have e:(a,b,g,h)=(ip,ik,q.b,q.e):=e;injection e with e1 e;injection e with e2 e;rw[e1,e2];rfl
  |tb a b c=>have e:(a,b,0,0)=(ip,ik,q.b,q.e):=e;injection e with e1 e;injection e with e2 e;rw[e1,e2];rfl
 ·have e1:=hsub.length_le
  rw[List.length_map,hr.length_eq,mq hA _ (Nat.le_refl _),hbl]at e1
  have e2:=dq h
  have e3:=fQ h
  rw[e2.2.1]at e1
  omega
end Go.Proofs.YtkimkgbppegkhaaGreat.Cm
