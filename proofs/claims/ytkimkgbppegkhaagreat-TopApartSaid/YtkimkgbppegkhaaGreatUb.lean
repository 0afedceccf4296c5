/- The clean machine's walks of peers (13): the clock. · What a peer does when it hears a letter, and at the clock's tick, in one form. No program is walked here. · The clean machine's walks of the swarm (1): what a swarm is; whom it holds. · The clean machine's walks of the swarm (2): letters sent. -/
import Derived.Test.YtkimkgbppegkhaaGreatEn
set_option linter.unusedVariables false
set_option linter.unusedSimpArgs false
namespace Go.Proofs.YtkimkgbppegkhaaGreat.Cm
open Go Go.RowKit Go.Proofs.YtkimkgbppegkhaaGreat.Gf
set_option maxRecDepth 1000000
/-- nothing in a store is too old -/
def nh(st:bi)(now:Nat):Prop:=(st.gone=[]∨∃a b u,st.gone=[(a,b,u)]∧now≤u)∧(∀r∈st.sy,now≤eX r)∧st.sy.length≤1000
theorem uO{X:Heap}{n sid:Nat}{st:bi}{P0:List (Nat×O)}(hst:bZ X sid st P0){now:Nat}(h:nh st now):al 83 [vf (.ptr sid 0),vi now] X n P0 fun v X' P'=>(∃k:Int,v=vf (.int .i64 k))∧bZ X' sid st P':=by
 obtain⟨h1 | ⟨a,b,u,h1,h2⟩,h3,h4⟩:=h
 ·exact AO hst h1 h3 h4
 ·exact AP hst h1 h2 h3 h4
theorem ur{X:Heap}{n:Nat}{pid:Nat}{q0 q1 q2 q3 q4 q5 q6 q7:F}{last:Nat}{ws:List Wt}{P0:List (Nat×O)}(hwt:fE pid q0 q1 q2 q3 q4 q5 q6 q7 last ws P0)(hwl:ws.length≤1000){now:Nat}(hnow:∀w∈ws,now≤w.til):al 84 [vf (.ptr (pid) (0)),vi now] X n (P0) fun v _ P'=>v=.tup []∧fE pid q0 q1 q2 q3 q4 q5 q6 q7 last ws P':=by
 refine al.of_to1 kr fun R H0 s0=>?_
 have hm0:ab X X:=ab.rfl
 refine ai 4 ?_
 obtain⟨_,W,_,_,P1,m,s,J,⟨rfl,hwt⟩⟩:=(DN hwt hwl hnow).on [_] [_] s0
 have hm0:=hm0.tr m
 refine ov 12 (J _ _) (ov 13 (ln 0) (ae 1 (bk 0 (lp (aC.for (0) (fun i A Hq nq=>∃(Y:Heap),aL A [(12,vf (.sl0)),(13,vf (.int .i64 0)),(14,vf (.int .i64 0))]∧aa Y Hq nq (cat [[],P1,R])∧(ab X Y)) ⟨W,az (ts:=[12,13,14]) kr,s,(hm0)⟩ (fun i A H n1 hi hI=>?_) (fun A H n1 hI=>?_))))))
 ·obtain⟨Y,qA,_,hm0⟩:=hI
  refine To.keep _ ?_ qA.sub
  exact absurd hi om
 ·obtain⟨Y,qA,s,hm0⟩:=hI
  refine To.keep _ ?_ qA.sub
  refine ag (ov 15 (lF 0 0) (aQ (iF (xt 0 ?_))))
  refine⟨sm,?_⟩
  exact⟨.inl rfl,_,kr,Y,_,aa.fin1 s,hm0,rfl,hwt⟩
theorem uz{X:Heap}{n:Nat}{f:F}{fs:List F}(hr:aF X 1 f=some fs)(hlt:fs.length<100000)(ht:ap X n):bF 85 [vf (f)] X n fun v _ M'=>∃g,v=vf g∧av 1 g fs M':=by
 refine bF.of_to kr ?_
 have s0:aa X X n (cat [[]]):=aa.ini ht
 have hm0:ab X X:=ab.rfl
 rcases Nat.eq_zero_or_pos fs.length with h0 | h0
 ·obtain rfl:=List.eq_nil_of_length_eq_zero h0
  rcases wv hr with rfl | ⟨id,off,cap,rfl⟩
  ·refine ah 1 (sq (ah 2 (iT (ah 1 (rt ?_)))))
   exact⟨.inr rfl,_,kr,X,_,s0,hm0,.sl0,rfl,.inl ⟨rfl,rfl,rfl⟩⟩
  ·refine ah 1 (sq (ah 2 (ar (nx (ag ?_)))))
   obtain⟨_,s,J⟩:=ay s0 (.cells [] true)
   refine ov 5 (J _ _ (vf (.sl (n) (0) 1 (0) none))) (go 1 ?_)
   obtain⟨_,s,J⟩:=qm (sz:=1) (bytes:=8) (len:=0) (m:=0) (x:=.sl (id) (off) 1 (0) cap) (new:=[]) (cs':=[]) s 0 rfl (aO s.mono hr) (rfl) om om om rfl
   refine ov 7 (J _ _) (ax 1 ?_)
   exact⟨.inr rfl,vf (.sl n 0 1 (0+0) none),kr,X,_,s,hm0,_,rfl,.inr ⟨n,0,[],true,rfl,rfl,sm,rfl⟩⟩
 ·obtain⟨id,off,cap,rfl,hat⟩:=cW hr h0
  refine ah 1 (sq (ah 2 (ar (nx (ag ?_)))))
  obtain⟨_,s,J⟩:=ay s0 (.cells [] true)
  refine ov 5 (J _ _ (vf (.sl (n) (0) 1 (0) none))) (go 1 ?_)
  obtain⟨_,s,J⟩:=pY (sz:=1) (bytes:=8) (m:=fs.length) (x:=.sl (id) (off) 1 (fs.length) cap) (new:=fs) s (s.at 0 rfl) (aO s.mono hr) (rfl) om om om
  refine ov 7 (J _ _) (ax 1 ?_)
  exact⟨.inr rfl,_,kr,X,_,s.sub (List.Sublist.cons_cons _ (List.Sublist.cons _ (List.Sublist.refl _))),hm0,_,rfl,.inr ⟨n+1,fs.length,fs,false,rfl,rfl,om,by rw[Nat.mul_one,List.take_length]⟩⟩
theorem B5{X:Heap}{n:Nat}{pid:Nat}{s:aq}{P0:List (Nat×O)}(hpe:bz X pid s P0){now:Nat}(hex:nh s.st now)(hws:s.ws.length≤1000)(htil:∀w∈s.ws,now≤w.til)(hn1:1≤now)(hn8:now≤8)(hop0:s.op=none):al 61 [vf (.ptr (pid) (0)),vi now] X n (P0) fun v X' P'=>v=.tup [.f .sl0,.f .sl0]∧bz X' pid s P':=by
 obtain⟨sid,tid,opf,lf,wf,Pw,Ps,Pt,Po,rfl,hw,hcw,hst,htk,hop⟩:=hpe
 refine al.of_to (Ps:=[[(pid,.cells [.ptr (sid) (0),.ptr (tid) (0),iN s.n,iN 9000,iN s.last,iN 0,iN s.tag,opf,lf,iN s.wl] true)],Pw,Ps,Pt,Po]) kr fun R H0 s0=>?_
 have hm0:ab X X:=ab.rfl
 rw[hop0]at hop
 refine ah 2 (sq (ah 2 (ar (nx (ai 1 ?_)))))
 obtain⟨_,_,_,_,m,G,J,rfl⟩:=(jG (a:=now) om s0.topX).on s0
 have hst:=hst.mono m
 refine ov 17 (J _ _) (ae 1 (ai 3 (ov 21 (ld 0 (G.at 0 rfl) rfl) (go 1 ?_))))
 obtain⟨_,_,_,_,Ps,m1,G,J,⟨⟨k0,rfl⟩,hst⟩⟩:=(uO hst hex).on [_,_] [_,_,_] G
 refine ov 23 (J _ _) (aj (ag ?_))
 have G:=aa.outAt [] [] G
 have G:=aa.pck [_] [_,_,_,_] [_,_] G
 refine go 2 ?_
 obtain⟨_,_,_,_,Q8,m2,G,J,⟨rfl,lf2,wf2,Pw2,rfl,hw2,hcw2⟩⟩:=(ur (pid:=pid) (q0:=.ptr sid 0) (q1:=.ptr tid 0) (q2:=iN s.n) (q3:=iN 9000) (q4:=iN s.last) (q5:=iN 0) (q6:=iN s.tag) (q7:=opf) (last:=s.wl) (ws:=s.ws) (P0:=cat [[(pid,.cells [.ptr (sid) (0),.ptr (tid) (0),iN s.n,iN 9000,iN s.last,iN 0,iN s.tag,opf,lf,iN s.wl] true)],Pw]) (now:=now) ⟨lf,wf,Pw,rfl,hw,hcw⟩ hws htil).on [_] [_,_,_,_] G
 have hop:=hop.mono (m.tr (m1.tr m2))
 refine ov 26 (J _ _) (aj ?_)
 have G:=aa.unp [_] [_,_,_,_] [_,_] G
 have G:=aa.inn [] [_,_,_,_,_] G
 refine ah 1 (ah 1 (aP 3 (ov 30 (ld 7 (G.at 0 rfl) rfl) ?_)))
 obtain⟨_,W,_,_,Q1,m3,G,J,⟨Pg,rfl,g,rfl,hg⟩⟩:=(bF.borrow (Q:=Po) (Post:=fun v P2=>∃g,v=vf g∧av 1 g [] P2) fun Y h1 h2 h3=>uz (fs:=[]) (hop.rowY h2) sm h3).on [_,_,_,_] [_] G
 have hm0:=hm0.tr (m.tr (m1.tr (m2.tr m3)))
 have hst:=hst.mono (m2.tr m3)
 have hop:=hop.mono m3
 refine ov 31 (J _ _) ?_
 have G:=aa.unp [_,_,_,_] [_] [_,_] G
 refine ov 32 (lv 0 (hg.lenA (l:=0) om rfl)) (ae 1 (bk 0 (lp (aC.for (0) (fun i A Hq nq=>∃(Y:Heap),aL A [(0,vf (.ptr (pid) (0))),(1,vi now),(6,vf (.sl0)),(7,vf (.sl0)),(31,vf (g)),(32,vi 0),(33,vi i)]∧aa Y Hq nq (cat [[(pid,.cells [.ptr (sid) (0),.ptr (tid) (0),iN s.n,iN 9000,iN s.last,iN 0,iN s.tag,opf,lf2,iN s.wl] true)],Pw2,Ps,Pt,Po,Pg,R])∧(ab X Y)∧(bZ Y sid s.st Ps)) ⟨W,az (ts:=[0,1,6,7,31,32,33]) kr,G,(hm0),(hst)⟩ (fun i A H n1 hi hI=>?_) (fun A H n1 hI=>?_)))))
 ·obtain⟨Y,qA,_,hm0,hst⟩:=hI
  refine To.keep _ ?_ qA.sub
  exact absurd hi om
 ·obtain⟨Y,qA,G,hm0,hst⟩:=hI
  refine To.keep _ ?_ qA.sub
  refine ag (ov 34 (lF 0 0) (aj ?_))
  skip
  refine sq (iF (xt 0 ?_))
  refine⟨sm,?_⟩
  show To Tryz.prog 61 [1,1,1,1,1,1,1,1] _ _ _ _
  refine aP 1 (ov 52 (au (px (now) (9) om)) (ov 53 (eF ((now)%(9)) 0) (aj (ar (nx (ah 4 (rt ?_)))))))
  have G:=aa.rid [_,_,_,_,_] [_] G
  exact⟨.inr rfl,_,kr,Y,_,aa.fin (Ps:=[_,_,_,_,_]) G,hm0,rfl,sid,tid,opf,lf2,wf2,Pw2,Ps,Pt,Po,rfl,hw2,hcw2,hst,htk,by rw[hop0];exact hop⟩
theorem BN{X:Heap}{n:Nat}{pid oid:Nat}{s:aq}{o:bI}{P0:List (Nat×O)}(hpo:cq X pid oid s o P0){now:Nat}(hex:nh s.st now)(hws:s.ws.length≤1000)(htil:∀w∈s.ws,now≤w.til)(hn1:1≤now)(hn8:now≤8)(hnow:now≤1000)(hwl:s.wl<1000000)(hk:o.kn.length<1000)(hak:o.ak.length<1000)(hopn:o.opn.length<1000)(hro:eA o)(hlr:o.rs.length<4000):al 61 [vf (.ptr (pid) (0)),vi now] X n (P0) fun v X' P'=>∃a b ls an,v=.tup [.f a,.f b]∧bS X' a ls∧c9 X' b an∧fI now X' pid oid s o ls an P':=by
 obtain⟨sid,tid,lid,opf,lf,fr,wf,frs,Pw,Ps,Pt,Pa,Pl,Pr,rfl,hw,hcw,hst,htk,ha,hl,hr,hcr⟩:=hpo
 refine al.of_to (Ps:=[[(pid,.cells [.ptr (sid) (0),.ptr (tid) (0),iN s.n,iN 9000,iN s.last,iN 0,iN s.tag,opf,lf,iN s.wl] true),(oid,.cells [iN o.tag,iN o.ip,iN o.ik,.ptr (lid) (0),fr] true)],Pw,Ps,Pt,Pa,Pl,Pr]) kr fun R H0 s0=>?_
 have hm0:ab X X:=ab.rfl
 refine ah 2 (sq (ah 2 (ar (nx (ai 1 ?_)))))
 obtain⟨_,_,_,_,m,G,J,rfl⟩:=(jG (a:=now) om s0.topX).on s0
 have hst:=hst.mono m
 refine ov 17 (J _ _) (ae 1 (ai 3 (ov 21 (ld 0 (G.at 0 rfl) rfl) (go 1 ?_))))
 obtain⟨_,_,_,_,Ps,m1,G,J,⟨⟨k0,rfl⟩,hst⟩⟩:=(uO hst hex).on [_,_] [_,_,_,_,_] G
 refine ov 23 (J _ _) (aj (ag ?_))
 have G:=aa.outAt [] [_] G
 have G:=aa.pck [_] [_,_,_,_,_,_] [_,_] G
 refine go 2 ?_
 obtain⟨_,_,_,_,Q8,m2,G,J,⟨rfl,lf2,wf2,Pw2,rfl,hw2,hcw2⟩⟩:=(ur (pid:=pid) (q0:=.ptr sid 0) (q1:=.ptr tid 0) (q2:=iN s.n) (q3:=iN 9000) (q4:=iN s.last) (q5:=iN 0) (q6:=iN s.tag) (q7:=opf) (last:=s.wl) (ws:=s.ws) (P0:=cat [[(pid,.cells [.ptr (sid) (0),.ptr (tid) (0),iN s.n,iN 9000,iN s.last,iN 0,iN s.tag,opf,lf,iN s.wl] true)],Pw]) (now:=now) ⟨lf,wf,Pw,rfl,hw,hcw⟩ hws htil).on [_] [_,_,_,_,_,_] G
 refine ov 26 (J _ _) (aj ?_)
 have G:=aa.unp [_] [_,_,_,_,_,_] [_,_] G
 have G:=aa.inn [] [_,_,_,_,_,_,_] G
 refine ah 1 (ah 1 (aP 3 (ov 30 (ld 7 (G.at 0 rfl) rfl) ?_)))
 obtain⟨_,W,_,_,Q1,m3,G,J,⟨Pg,rfl,g,rfl,hg⟩⟩:=(bF.borrow (Q:=Pa) (Post:=fun v P2=>∃g,v=vf g∧av 1 g [.ptr oid 0] P2) fun Y h1 h2 h3=>uz (fs:=[.ptr oid 0]) (ha.rowY h2) sm h3).on [_,_,_,_] [_,_,_] G
 have hm0:=hm0.tr (m.tr (m1.tr (m2.tr m3)))
 have hst:=hst.mono (m2.tr m3)
 have hcr:=hcr.mono fun _ _ q=>q.mono _ _ _ _ (m.tr (m1.tr (m2.tr m3)))
 refine ov 31 (J _ _) ?_
 have G:=aa.unp [_,_,_,_] [_,_,_] [_,_] G
 refine ov 32 (lv 1 (hg.lenA (l:=1) om rfl)) ?_
 obtain⟨ka,csa,exa,rfl,rfl,hca⟩:=hg.one1
 have G:=aa.outAt [_] [] G
 have G:=aa.outAt [] [] G
 have G:=aa.swap [_,_,_,_,_,_,_] [_,_] G
 have G:=aa.swap [_,_,_,_,_,_,_,_] [_] G
 have G:=aa.pck [_] [_,_] [_,_,_,_,_,_,_,_] G
 have G:=aa.inn [_] [_] G
 have G:=aa.addN G (rfl)
 have G:=aa.addN G (rfl)
 refine ae 1 (bk 0 (lp (aC.for (1) (fun i A Hq nq=>∃(Y:Heap) (P1:List (Nat×O)) (ac1:F) (fs1:List F) (Pc1:List (Nat×O)) (ac2:F) (fs2:List F) (Pc2:List (Nat×O)) (ls:List Lt) (an:List An),aL A [(0,vf (.ptr (pid) (0))),(1,vi now),(6,vf (ac1)),(7,vf (ac2)),(31,vf (.sl (ka) (0) 1 (1) none)),(32,vf (.int .i64 1)),(33,vi i)]∧aa Y Hq nq (cat [[(ka,.cells (csa) exa)],P1,R,Pc1,Pc2])∧(ab X Y)∧(av 8 ac1 fs1 Pc1)∧(aA (bM Y) 8 ls fs1)∧(av 6 ac2 fs2 Pc2)∧(aA (dK Y) 6 an fs2)∧((i=0∧cq Y pid oid s o P1∧ls=[]∧an=[])∨(i=1∧fI now Y pid oid s o ls an P1))) ⟨W,cat [[(pid,.cells [.ptr (sid) (0),.ptr (tid) (0),iN s.n,iN 9000,iN s.last,iN 0,iN s.tag,opf,lf2,iN s.wl] true)],[(oid,.cells [iN o.tag,iN o.ip,iN o.ik,.ptr (lid) (0),fr] true)],Pw2,Ps,Pt,Pa,Pl,Pr],.sl0,[],[],.sl0,[],[],[],[],az (ts:=[0,1,6,7,31,32,33]) kr,G,(hm0),(av.nil 8),(rfl),(av.nil 6),(rfl),(.inl ⟨rfl,⟨sid,tid,lid,opf,lf2,fr,wf2,frs,Pw2,Ps,Pt,Pa,Pl,Pr,rfl,hw2,hcw2,hst,htk,ha,hl,hr,hcr⟩,rfl,rfl⟩)⟩ (fun i A H n1 hi hI=>?_) (fun A H n1 hI=>?_))))
 ·obtain⟨Y,P1,ac1,fs1,Pc1,ac2,fs2,Pc2,ls,an,qA,G,hm0,ho1,hc1,ho2,hc2,hq⟩:=hI
  refine To.keep _ ?_ qA.sub
  refine ag (ov 34 (lT i 1) (aj ?_))
  have hi0:i=0:=by omega
  obtain⟨_,hpo,hls0,han0⟩:=hq.resolve_right fun h=>absurd h.1 om
  subst hls0
  subst han0
  have hf1:=hc1.len
  have hf2:=hc2.len
  refine sq (aM (nx (aD 1 (ag (ov 35 (ix ka 0 1 1 i) (ov 36 (am (id:=ka) (off:=0+i*1) (x:=.ptr oid 0) (G.at 0 rfl) (by rw[show 0+i*1=0 by omega];exact hca)) (ae 1 (ai 3 ?_))))))))
  obtain⟨_,W,_,_,P9,m4,G,J,⟨va,vb,ls2,an2,rfl,hls,han,hl1,ha1,hon⟩⟩:=(xg (now:=now) hpo hnow hws hwl hk hak hopn hro hlr).on [_] [_,_,_] G
  have hm0:=hm0.tr m4
  have hc1:=hc1.mono fun _ _ q=>bM.mono _ _ _ _ m4 q
  have hc2:=hc2.mono fun _ _ q=>dK.mono _ _ _ _ m4 q
  refine ov 41 (J _ _) ?_
  obtain⟨gs1,hg1,hcg1⟩:=hls.row
  obtain⟨gs2,hg2,hcg2⟩:=han.row
  refine ae 5 (rg (go 2 ?_))
  obtain⟨_,_,_,_,ho988,G,J⟩:=b6 (sz:=8) (bytes:=96) (x:=va) (new:=gs1) [_,_,_] [_] G (ho1) (aO G.mono hg1) (hls.lenA) om (by rw[hf1];simp;omega)
  refine ov 46 (J _ _) (go 2 ?_)
  obtain⟨_,_,_,_,ho995,G,J⟩:=b6 (sz:=6) (bytes:=64) (x:=vb) (new:=gs2) [_,_,_,_] [] G (ho2) (aO G.mono hg2) (han.lenA) om (by rw[hf2];simp;omega)
  refine ov 49 (J _ _) (ae 2 (rg (ov 50 (aN i 1) (aR 1 ?_))))
  exact .inl ⟨rfl,W,_,_,_,_,_,_,_,ls2,an2,az (ts:=[0,1,6,7,31,32,33]) kr,G,(hm0),(ho988),(hc1.append hcg1),(ho995),(hc2.append hcg2),(.inr ⟨om,hon⟩)⟩
 ·obtain⟨Y,P1,ac1,fs1,Pc1,ac2,fs2,Pc2,ls,an,qA,G,hm0,ho1,hc1,ho2,hc2,hq⟩:=hI
  refine To.keep _ ?_ qA.sub
  refine ag (ov 34 (lF 1 1) (aQ (iF (xt 0 ?_))))
  refine⟨sm,?_⟩
  show To Tryz.prog 61 [1,1,1,1,1,1,1,1] _ _ _ _
  refine aP 1 (ov 52 (au (px (now) (9) om)) (ov 53 (eF ((now)%(9)) 0) (aj ?_)))
  have hon:fI now Y pid oid s o ls an P1:=(hq.resolve_left fun h=>absurd h.1 om).2
  obtain⟨_,m5,G,hg1⟩:=av.frzS (ho1) (hc1) om bM.mono [_,_,_] [_] G
  have hc2:=hc2.mono fun _ _ q=>dK.mono _ _ _ _ m5 q
  obtain⟨W,m6,G,hg2⟩:=av.frzS (ho2) (hc2) om dK.mono [_,_,_] [] G
  have hm0:=hm0.tr (m5.tr m6)
  have hon:=hon.mono (m5.tr m6)
  have hg1:=bS.mono m6 hg1
  refine ar (nx (ah 4 (rt ?_)))
  exact⟨.inr rfl,_,kr,W,_,aa.fin1 G,hm0,ac1,ac2,ls,an,rfl,hg1,hg2,hon⟩
theorem yM:∀{l k:List Nat},bs l=bs k→l=k
 |[],[],_=>rfl
 |a::l,b::k,h=>by
  have h:F.int .u8 (a:Int)::bs l=F.int .u8 (b:Int)::bs k:=h
  injection h with h1 h2
  injection h1 with _ h1
  rw[Int.ofNat.inj h1,yM h2]
 |[],_::_,h=>by simp[bs]at h
 |_::_,[],h=>by simp[bs]at h
theorem aB.det{X:Heap}{f:F}{l k:List Nat}(h:aB X f l)(g:aB X f k):l=k:=yM (Option.some.inj (h.1.symm.trans g.1))
/-- an operation is told: gone, or all of it -/
def ig(st:bi)(o:bI)(e:Int)(d:List Nat):Prop:=
 (((bK st.gone o.ip o.ik).isSome=true∨∃r∈o.rs,jq r=true)∧e=7)∨
 (bK st.gone o.ip o.ik=none∧e=0∧∃u B N M rcs ql,o.rs=rcs.map (aY o.ip o.ik u B N M)∧rcs≠[]∧ql.length=blkS B N M∧gV rcs B N M ql∧d=(dX (ql.map (gY N))).take B)
def eV(st:bi)(o:bI):Prop:=bK st.gone o.ip o.ik=none∧∃u B N M rcs,o.rs=rcs.map (aY o.ip o.ik u B N M)∧(rcs≠[]→∃i,i<blkS B N M∧fO (lK (kS B N M i)) N (dL (kS B N M i) (drp rcs i)) (dM (kS B N M i) (drp rcs i)) (dD (kS B N M i) N (drp rcs i)))
theorem du.tol{X:Heap}{st:bi}{o:bI}{g:F}{e:Int}{d:List Nat}(h:du X st o g e true)(hd:aB X g d):ig st o e d:=by
 rcases h with⟨h1,rfl,h2,_⟩|⟨h1,h2,u,B,N,M,rcs,h3,⟨_,h,_⟩|⟨h5,e2,h6,h7⟩⟩
 ·exact .inl ⟨h1,h2⟩
 ·cases h
 ·have h7:e2=0:=of_decide_eq_true h7.symm
  rcases h6 with⟨_,ql,h8,h9,h4⟩|⟨h,_⟩
  ·exact .inr ⟨h1,h2,u,B,N,M,rcs,ql,h3,h5,h8,h9,hd.det h4⟩
  ·rw[h7]at h;cases h
theorem du.not{X:Heap}{st:bi}{o:bI}{g:F}{e:Int}(h:du X st o g e false):eV st o:=by
 rcases h with⟨_,_,_,h⟩|⟨h1,h2,u,B,N,M,rcs,h3,⟨h4,_,_⟩|⟨h5,e2,h6,h7⟩⟩
 ·cases h
 ·exact⟨h1,u,B,N,M,rcs,h3,fun h=>absurd h4 h⟩
 ·refine⟨h1,u,B,N,M,rcs,h3,fun _=>?_⟩
  rcases h6 with⟨h,_⟩|⟨_,_,i,h8,h9⟩
  ·have:=of_decide_eq_false h7.symm;exact absurd h this
  ·exact⟨i,h8,h9⟩
/-- how an operation goes on -/
def tO(now:Nat)(s:aq)(o:bI)(ls:List Lt)(an:List An)(s2:aq):Prop:=
 (∃e d,(ig s.st o e d∨(eV s.st o∧o.opn=[]∧leftL o.kn o.ak=[]))∧ls=[]∧an=[⟨s.n,o.tag,e,o.ip,o.ik,d⟩]∧s2={s with op:=none,ws:=s.ws.filter fun w=> !decide (w.op=o.tag)})∨
 (eV s.st o∧an=[]∧((o.opn≠[]∧ls=[]∧s2={s with op:=some o})∨(o.opn=[]∧∃k∈leftL o.kn o.ak,ls=[⟨1,s.n,k,s.wl+1,o.ip,o.ik,[],[]⟩]∧s2={s with wl:=s.wl+1,ws:=s.ws++[⟨s.wl+1,o.tag,k,now+6⟩],op:=some {o with ak:=o.ak++[k],opn:=o.opn++[k]}})))
theorem fI.s{now:Nat}{X:Heap}{pid oid:Nat}{s:aq}{o:bI}{ls:List Lt}{an:List An}{P:List (Nat×O)}(h:fI now X pid oid s o ls an P):∃P2,P.Perm P2∧∃s2,tO now s o ls an s2∧bz X pid s2 P2:=by
 rcases h with⟨g,e,d,h1,h2,h3,h4,h5⟩|⟨⟨g,e,h1⟩,h2,⟨h3,h4,h5⟩|⟨h3,k,h4,h5,h6⟩⟩
 ·exact⟨P,List.Perm.refl _,_,.inl ⟨e,d,h1.imp (fun h=>h.tol h2) (fun h=>by obtain⟨⟨g,e,h⟩,q1,q2,_⟩:=h;exact⟨h.not,q1,q2⟩),h3,h4,rfl⟩,h5⟩
 ·obtain⟨P2,g1,g2⟩:=h5.shut
  exact⟨P2,g1,_,.inr ⟨h1.not,h2,.inl ⟨h3,h4,rfl⟩⟩,g2⟩
 ·obtain⟨P2,g1,g2⟩:=h6.shut
  exact⟨P2,g1,_,.inr ⟨h1.not,h2,.inr ⟨h3,k,h4,h5,rfl⟩⟩,g2⟩
/-- when a tell fits the operation under way -/
structure HF(s:aq)(o:bI)(lt:Lt)(u B N M:Nat)(rcs:List Rc):Prop where
 op:s.op=some o
 rs:lt.rs=rcs.map (aY o.ip o.ik u B N M)
 w0:∃w,w∈s.ws∧w.tag=lt.tag∧w.peer=lt.fr
 w1:∀w∈s.ws,w.tag=lt.tag→w.peer=lt.fr→w.op=o.tag
 wl:s.wl<1000000
 dn:∀q∈rcs,0<q.d.length∧q.d.length<1000
 kl:(bE s.n o.kn lt.ps).length<1000
 kl0:o.kn.length<1000
 ak:o.ak.length<1000
 opn:o.opn.length<1000
 inn:lt.fr∈o.opn
 ro:eA {o with rs:=o.rs++lt.rs}
 rl:(o.rs++lt.rs).length<4000
 rl2:rcs.length<1000
structure mP(now Q:Nat)(s:aq)(lt:Lt):Prop where
 now:now≤1000
 kn:b5 Q s.n s.kn
 frQ:lt.fr<Q
 frn:lt.fr≠s.n
 to:lt.to=s.n
 sy:∀r∈s.st.sy,c5 r
 syl:s.st.sy.length≤1000
 lg:s.st.lg≤500000000
 wsl:s.ws.length≤1000
 c:lt.kind=1∨(lt.kind=2∧(∀k∈lt.ps,k<Q)∧lt.ps.length<1000∧((s.op=none∧s.ws.filter (fun w=>decide (w.tag=lt.tag∧w.peer=lt.fr))=[])∨∃o u B N M rcs,HF s o lt u B N M rcs))∨(lt.kind=3∧(∀r∈lt.rs,dy r)∧eh s.st lt.rs∧lt.rs.length<1000)
def jg(now:Nat)(s:aq)(lt:Lt)(ls:List Lt)(an:List An)(s2:aq):Prop:=
 (lt.kind=1∧an=[]∧(∃l:List Nat,l.Perm (bp s.n s.kn lt.fr)∧ls=[⟨2,s.n,lt.fr,lt.tag,lt.ip,lt.ik,l.filter fun a=> !decide (a=lt.fr),fu s.st lt.ip lt.ik⟩])∧s2={s with kn:=bp s.n s.kn lt.fr})∨
 (lt.kind=2∧((s.op=none∧ls=[]∧an=[]∧s2={s with ws:=s.ws.filter (fun w=> !decide (w.tag=lt.tag∧w.peer=lt.fr)),kn:=lt.ps.foldl (bp s.n) (bp s.n s.kn lt.fr)})∨
  ∃o,s.op=some o∧tO now {s with ws:=s.ws.filter (fun w=> !decide (w.tag=lt.tag∧w.peer=lt.fr)),kn:=lt.ps.foldl (bp s.n) (bp s.n s.kn lt.fr)} {o with rs:=o.rs++lt.rs,kn:=bE s.n o.kn lt.ps,opn:=iM o.opn lt.fr} ls an s2))∨
 (lt.kind=3∧ls=[]∧an=[]∧∃st2,ce s.st lt.rs st2∧st2.lg≤s.st.lg+lt.rs.length*100∧s2={s with kn:=bp s.n s.kn lt.fr,st:=st2})
abbrev zN(X:Heap)(v:V)(ls:List Lt)(an:List An):Prop:=∃a b,v=.tup [.f a,.f b]∧bS X a ls∧c9 X b an∧ls.length≤1∧an.length≤1
theorem C3{X:Heap}{n pid now Q:Nat}{s:aq}{lt:Lt}{c:List F}{P0:List (Nat×O)}(hpe:bz X pid s P0)(hc:bM X lt c)(h:mP now Q s lt):al 91 [vf (.ptr pid 0),vi now,.u (.agg c)] X n P0 fun v X' P'=>∃ls an s2,zN X' v ls an∧jg now s lt ls an s2∧bz X' pid s2 P':=by
 obtain⟨kind,fr,to,tag,ip,ik,ps,rs⟩:=lt
 obtain⟨fp,fq,rfl,hp,hq⟩:=hc
 obtain⟨h1,h2,h3,h4,h5,h6,h7,h8,h9,h11⟩:=h
 simp only at h3 h4 h5 h11 hp hq
 subst h5
 rcases h11 with rfl | ⟨rfl,g1,g2,g3 | ⟨o,u,B,N,M,rcs,g⟩⟩|⟨rfl,g1,g2,g3⟩
 ·refine(Ce hpe h1 h2 h3 h4 h6 h7).imp fun v X' P' q=>?_
  obtain⟨g,l,q1,q2,q3,q4⟩:=q
  exact⟨_,[],_,⟨g,.sl0,q1,q3,.inl ⟨rfl,rfl⟩,sm,sm⟩,.inl ⟨rfl,rfl,⟨l,q2,rfl⟩,rfl⟩,q4⟩
 ·refine(Bh hpe h1 h2 h3 h4 hp hq g1 g2 h9 g3.1 g3.2).imp fun v X' P' q=>?_
  exact⟨[],[],_,⟨_,_,q.1,bS.none,.inl ⟨rfl,rfl⟩,sm,sm⟩,.inr (.inl ⟨rfl,.inl ⟨g3.1,rfl,rfl,rfl⟩⟩),q.2⟩
 ·obtain⟨e1,e2,e3,e4,e5,e6,e7,e8,e9,e10,e11,e12,e13,e14⟩:=g
  simp only at e2 e3 e4 e7 e11 e12 e13
  subst e2
  have hpe2:bz X pid {s with op:=some o} P0:=by rw[←e1];exact hpe
  obtain⟨oid,P2,hP,hpo⟩:=hpe2.open
  refine al.out ((BD (u:=u) (B:=B) (N:=N) (M:=M) (rcs:=rcs) hpo h1 h2 h3 h4 hp hq g1 g2 h9 e3 e4 e5 e6 e7 e8 e9 e10 e11 e12 e13 e14).perm hP.symm) fun v X' P' q=>?_
  obtain⟨a,b,ls,an,q1,q2,q3,q4,q5,q6⟩:=q
  obtain⟨P3,q7,s2,q8,q9⟩:=q6.s
  exact⟨P3,q7,ls,an,s2,⟨a,b,q1,q2,q3,q4,q5⟩,.inr (.inl ⟨rfl,.inr ⟨o,e1,q8⟩⟩),q9⟩
 ·refine(Cr hpe h1 h2 h3 h4 hq g1 g2 g3 h8).imp fun v X' P' q=>?_
  obtain⟨q1,st2,q2,q3,q4⟩:=q
  exact⟨[],[],_,⟨_,_,q1,bS.none,.inl ⟨rfl,rfl⟩,sm,sm⟩,.inr (.inr ⟨rfl,rfl,rfl,st2,q2,q3,rfl⟩),q4⟩
structure lr(now:Nat)(s:aq):Prop where
 ex:nh s.st now
 wsl:s.ws.length≤1000
 til:∀w∈s.ws,now≤w.til
 n1:1≤now
 n8:now≤8
 wl:s.wl<1000000
 op:∀o,s.op=some o→o.kn.length<1000∧o.ak.length<1000∧o.opn.length<1000∧eA o∧o.rs.length<4000
def jj(now:Nat)(s:aq)(ls:List Lt)(an:List An)(s2:aq):Prop:=(s.op=none∧ls=[]∧an=[]∧s2=s)∨∃o,s.op=some o∧tO now s o ls an s2
theorem fI.le{now:Nat}{X:Heap}{pid oid:Nat}{s:aq}{o:bI}{ls:List Lt}{an:List An}{P:List (Nat×O)}(h:fI now X pid oid s o ls an P):ls.length≤1∧an.length≤1:=by
 rcases h with⟨g,e,d,h1,h2,rfl,rfl,h5⟩|⟨_,rfl,⟨h3,rfl,h5⟩|⟨h3,k,h4,rfl,h6⟩⟩<;>simp
theorem DC{X:Heap}{n pid now:Nat}{s:aq}{P0:List (Nat×O)}(hpe:bz X pid s P0)(h:lr now s):al 61 [vf (.ptr pid 0),vi now] X n P0 fun v X' P'=>∃ls an s2,zN X' v ls an∧jj now s ls an s2∧bz X' pid s2 P':=by
 obtain⟨h1,h2,h3,h4,h5,h6,h7⟩:=h
 cases ho:s.op with
 |none=>
  refine(B5 hpe h1 h2 h3 h4 h5 ho).imp fun v X' P' q=>?_
  exact⟨[],[],s,⟨_,_,q.1,bS.none,.inl ⟨rfl,rfl⟩,sm,sm⟩,.inl ⟨ho,rfl,rfl,rfl⟩,q.2⟩
 |some o=>
  obtain⟨g1,g2,g3,g4,g5⟩:=h7 o ho
  have hpe2:bz X pid {s with op:=some o} P0:=by rw[←ho];exact hpe
  obtain⟨oid,P2,hP,hpo⟩:=hpe2.open
  refine al.out ((BN hpo h1 h2 h3 h4 h5 om h6 g1 g2 g3 g4 g5).perm hP.symm) fun v X' P' q=>?_
  obtain⟨a,b,ls,an,q1,q2,q3,q6⟩:=q
  obtain⟨P3,q7,s2,q8,q9⟩:=q6.s
  exact⟨P3,q7,ls,an,s2,⟨a,b,q1,q2,q3,q6.le.1,q6.le.2⟩,.inr ⟨o,ho,q8⟩,q9⟩
/-- one that begins to look -/
def gU(now:Nat)(s:aq)(ip ik:Nat)(ls:List Lt)(s2:aq):Prop:=∃l:List Nat,l.Perm s.kn∧
 (((∃e d,ig s.st ⟨s.tag+1,ip,ik,s.st.sy.filter (aW ip ik),bE s.n [] l,[],[]⟩ e d)∧ls=[]∧s2={s with tag:=s.tag+1,op:=some ⟨s.tag+1,ip,ik,s.st.sy.filter (aW ip ik),bE s.n [] l,[],[]⟩})∨
  (eV s.st ⟨s.tag+1,ip,ik,s.st.sy.filter (aW ip ik),bE s.n [] l,[],[]⟩∧((leftL (bE s.n [] l) []=[]∧ls=[]∧s2={s with tag:=s.tag+1,op:=some ⟨s.tag+1,ip,ik,s.st.sy.filter (aW ip ik),bE s.n [] l,[],[]⟩})∨
   ∃k∈leftL (bE s.n [] l) [],ls=[⟨1,s.n,k,s.wl+1,ip,ik,[],[]⟩]∧s2={s with tag:=s.tag+1,wl:=s.wl+1,ws:=s.ws++[⟨s.wl+1,s.tag+1,k,now+6⟩],op:=some ⟨s.tag+1,ip,ik,s.st.sy.filter (aW ip ik),bE s.n [] l,[k],[k]⟩})))
theorem Cl{X:Heap}{n pid now ip ik:Nat}{s:aq}{P0:List (Nat×O)}(hpe:bz X pid s P0)(hop0:s.op=none)(hnow:now≤1000)(hws:s.ws.length≤1000)(hwl:s.wl<1000000)(hS:s.kn.length≤12)(htg:s.tag≤1000000)(hsy:∀r∈s.st.sy,c5 r)(hlt:s.st.sy.length≤1000)(hro:eA ⟨s.tag+1,ip,ik,s.st.sy.filter (aW ip ik),[],[],[]⟩):
 al 78 [vf (.ptr pid 0),vi now,.u (.agg [iN ip,iN ik])] X n P0 fun v X' P'=>∃t g ls s2,v=.tup [.f (iN t),.f g]∧bS X' g ls∧ls.length≤1∧gU now s ip ik ls s2∧bz X' pid s2 P':=
 al.out (Ck hpe hop0 hnow hws hwl hS htg hsy hlt hro) fun v X' P' q=>by
  obtain⟨oid,l,hl,⟨⟨g,e,h1⟩,h2,h3⟩|⟨⟨g,e,h1⟩,⟨h2,h3,h4⟩|⟨g2,k,h2,h3,h4,h5⟩⟩⟩:=q
  ·obtain⟨P2,g1,g2⟩:=h3.shut
   obtain⟨d,hd⟩:=h1.row
   exact⟨P2,g1,_,_,[],_,h2,bS.none,sm,⟨l,hl,.inl ⟨⟨e,d,h1.tol hd⟩,rfl,rfl⟩⟩,g2⟩
  ·obtain⟨P2,g1,g2⟩:=h4.shut
   exact⟨P2,g1,_,_,[],_,h3,bS.none,sm,⟨l,hl,.inr ⟨h1.not,.inl ⟨h2,rfl,rfl⟩⟩⟩,g2⟩
  ·obtain⟨P2,g1,g3⟩:=h5.shut
   exact⟨P2,g1,_,_,_,_,h3,h4,sm,⟨l,hl,.inr ⟨h1.not,.inr ⟨k,h2,rfl,rfl⟩⟩⟩,g3⟩
/-- the peers of a swarm: each in a block of its own -/
def d9(X:Heap):List aq→List F→List (List (Nat×O))→Prop
 |[],[],[]=>True
 |s::ss,f::fs,P::Ps=>(∃qid pid Pp,f=.ptr qid 0∧P=cat [[(qid,.cells [.ptr pid 0,.bool false] true)],Pp]∧bz X pid s Pp)∧d9 X ss fs Ps
 |_,_,_=>False
theorem d9.mono{X Y:Heap}(hm:ab X Y):∀{ss:List aq} {fs:List F} {Ps:List (List (Nat×O))},d9 X ss fs Ps→d9 Y ss fs Ps
 |[],[],[],_=>trivial
 |s::ss,f::fs,P::Ps,h=>by
  obtain⟨⟨qid,pid,Pp,h1,h2,h3⟩,h4⟩:=h
  exact⟨⟨qid,pid,Pp,h1,h2,h3.mono hm⟩,h4.mono hm⟩
 |_::_,[],_,h=>h.elim
 |_::_,_::_,[],h=>h.elim
 |[],_::_,_,h=>h.elim
 |[],[],_::_,h=>h.elim
theorem d9.len{X:Heap}:∀{ss:List aq} {fs:List F} {Ps:List (List (Nat×O))},d9 X ss fs Ps→fs.length=ss.length
 |[],[],[],_=>rfl
 |_::ss,_::fs,_::Ps,h=>by simp[h.2.len]
 |_::_,[],_,h=>h.elim
 |_::_,_::_,[],h=>h.elim
 |[],_::_,_,h=>h.elim
 |[],[],_::_,h=>h.elim
theorem d9.at{X:Heap}:∀{ss:List aq} {fs:List F} {Ps:List (List (Nat×O))} {i:Nat} {s:aq},d9 X ss fs Ps→ss[i]?=some s→∃qid pid Pp A B,fs[i]?=some (.ptr qid 0)∧Ps=A++cat [[(qid,.cells [.ptr pid 0,.bool false] true)],Pp]::B∧bz X pid s Pp∧∀Y,ab X Y→∀s2 Pp2,bz Y pid s2 Pp2→d9 Y (ss.set i s2) fs (A++cat [[(qid,.cells [.ptr pid 0,.bool false] true)],Pp2]::B)
 |s::ss,f::fs,P::Ps,0,s0,h,hs=>by
  obtain⟨⟨qid,pid,Pp,rfl,rfl,h3⟩,h4⟩:=h
  simp at hs
  subst hs
  exact⟨qid,pid,Pp,[],Ps,rfl,rfl,h3,fun Y hm s2 Pp2 h=>⟨⟨qid,pid,Pp2,rfl,rfl,h⟩,h4.mono hm⟩⟩
 |s::ss,f::fs,P::Ps,i+1,s0,h,hs=>by
  obtain⟨h1,h4⟩:=h
  obtain⟨qid,pid,Pp,A,B,g1,g2,g3,g4⟩:=h4.at (i:=i) (s:=s0) (by simpa using hs)
  refine⟨qid,pid,Pp,P::A,B,by simpa using g1,by rw[g2];rfl,g3,fun Y hm s2 Pp2 h=>⟨?_,g4 Y hm s2 Pp2 h⟩⟩
  obtain⟨qid',pid',Pp',q1,q2,q3⟩:=h1
  exact⟨qid',pid',Pp',q1,q2,q3.mono hm⟩
 |[],[],[],_,_,_,hs=>by simp at hs
 |_::_,[],_,_,_,h,_=>h.elim
 |_::_,_::_,[],_,_,h,_=>h.elim
 |[],_::_,_,_,_,h,_=>h.elim
 |[],[],_::_,_,_,h,_=>h.elim
theorem d9.snoc{X:Heap}{s:aq}{qid pid:Nat}{Pp:List (Nat×O)}(hs:bz X pid s Pp):∀{ss:List aq} {fs:List F} {Ps:List (List (Nat×O))},d9 X ss fs Ps→d9 X (ss++[s]) (fs++[.ptr qid 0]) (Ps++[cat [[(qid,.cells [.ptr pid 0,.bool false] true)],Pp]])
 |[],[],[],_=>⟨⟨qid,pid,Pp,rfl,rfl,hs⟩,trivial⟩
 |_::_,_::_,_::_,h=>⟨h.1,d9.snoc hs h.2⟩
 |_::_,[],_,h=>h.elim
 |_::_,_::_,[],h=>h.elim
 |[],_::_,_,h=>h.elim
 |[],[],_::_,h=>h.elim
/-- a swarm -/
def bv(X:Heap)(sw:Nat)(ps:List aq)(fl:List Lt)(now:Nat)(P:List (Nat×O)):Prop:=∃lf lfs ff fs Pl Pf Pps,P=cat [[(sw,.cells [lf,ff,iN now] true)],Pl,Pf,cat Pps]∧av 1 lf lfs Pl∧d9 X ps lfs Pps∧av 8 ff fs Pf∧aA (bM X) 8 fl fs
theorem bv.mono{X Y:Heap}{sw:Nat}{ps:List aq}{fl:List Lt}{now:Nat}{P:List (Nat×O)}(hm:ab X Y)(h:bv X sw ps fl now P):bv Y sw ps fl now P:=by
 obtain⟨lf,lfs,ff,fs,Pl,Pf,Pps,h1,h2,h3,h4,h5⟩:=h
 exact⟨lf,lfs,ff,fs,Pl,Pf,Pps,h1,h2,h3.mono hm,h4,h5.mono fun _ _ q=>bM.mono _ _ _ _ hm q⟩
theorem av.atF{f x:F}{fs:List F}{M:List (Nat×O)}{i:Nat}(h:av 1 f fs M)(hx:fs[i]?=some x):∃k cs ex,f=.sl k 0 1 fs.length none∧M=[(k,.cells cs ex)]∧cs[i]?=some x:=by
 rcases h with⟨_,rfl,_⟩|⟨k,len,cs,ex,rfl,rfl,h1,rfl⟩
 ·simp at hx
 ·refine⟨k,cs,ex,by rw[List.length_take];congr 1;omega,rfl,?_⟩
  rw[List.getElem?_take]at hx
  split at hx
  ·exact hx
  ·cases hx
theorem jE{X:Heap}{n:Nat}{sw now i:Nat}{lf ff f:F}{lfs:List F}{Pl:List (Nat×O)}(hl:av 1 lf lfs Pl)(hx:lfs[i]?=some f):al 58 [vf (.ptr (sw) (0)),vi i] X n (cat [[(sw,.cells [lf,ff,iN now] true)],Pl]) fun v _ P'=>v=vf f∧P'=cat [[(sw,.cells [lf,ff,iN now] true)],Pl]:=by
 refine al.of_to (Ps:=[[(sw,.cells [lf,ff,iN now] true)],Pl]) kr fun R H0 s0=>?_
 have hm0:ab X X:=ab.rfl
 refine ah 1 (aP 4 (ov 9 (lF i 0) (go 6 (ov 16 (ld 0 (s0.at 0 rfl) rfl) (ov 17 (lv lfs.length (hl.lenA om (Nat.mul_one _).symm)) (ov 18 (hF i lfs.length (by have:=(List.getElem?_eq_some_iff.1 hx).1;omega)) ?_))))))
 refine ae 1 (ar (nx (ag ?_)))
 obtain⟨ka,csa,exa,rfl,rfl,hca⟩:=hl.atF hx
 have s:=aa.inn [] [_] s0
 have hil:=(List.getElem?_eq_some_iff.1 hx).1
 refine go 3 (ov 23 (ld 0 (s.at 1 rfl) rfl) (go 1 (ov 25 (ix ka 0 1 lfs.length i) (ov 26 (am (id:=ka) (off:=0+i*1) (x:=f) (s.at 0 rfl) (by rw[Nat.zero_add,Nat.mul_one];exact hca)) (ax 1 ?_)))))
 have s:=aa.outAt [] [_] s
 exact⟨.inr rfl,_,kr,X,_,aa.fin (Ps:=[_,_]) s,hm0,rfl,rfl⟩
theorem BB{X:Heap}{n:Nat}{sw:Nat}{ps:List aq}{fl:List Lt}{now:Nat}{P0:List (Nat×O)}(hsw:bv X sw ps fl now P0)  : al 36 [vf (.ptr (sw) (0))] X n (P0) fun v _ P'=>v=vi fl.length∧P'=P0:=by
 obtain⟨lf,lfs,ff,fs,Pl,Pf,Pps,rfl,hl,hps,hf,hfl⟩:=hsw
 refine al.of_to (Ps:=[[(sw,.cells [lf,ff,iN now] true)],Pl,Pf,cat Pps]) kr fun R H0 s0=>?_
 have hm0:ab X X:=ab.rfl
 refine ah 1 (sq (ah 2 (ar (nx (ai 3 (ov 8 (ld 1 (s0.at 0 rfl) rfl) (ov 9 (lv fl.length (hf.lenC om hfl)) (ax 1 ?_))))))))
 exact⟨.inr rfl,_,kr,X,_,aa.fin (Ps:=[_,_,_,_]) s0,hm0,rfl,rfl⟩
theorem kM{X:Heap}{n:Nat}{sw now:Nat}{lf ff g:F}{fs:List F}{Pf:List (Nat×O)}{fl ls:List Lt}(hf:av 8 ff fs Pf)(hfl:aA (bM X) 8 fl fs)(hg:bS X g ls)(hok:∀l∈ls,cT l)(hlen:fl.length+ls.length≤500):al 62 [vf (.ptr (sw) (0)),vf (g)] X n (cat [[(sw,.cells [lf,ff,iN now] true)],Pf]) fun v X' P'=>v=.tup []∧∃ff2 fs2 Pf2,P'=cat [[(sw,.cells [lf,ff2,iN now] true)],Pf2]∧av 8 ff2 fs2 Pf2∧aA (bM X') 8 (fl++ls) fs2:=by
 refine al.of_to (Ps:=[[(sw,.cells [lf,ff,iN now] true)],Pf]) kr fun R H0 s0=>?_
 have hm0:ab X X:=ab.rfl
 refine ai 1 (ov 9 (lv ls.length hg.lenA) (ae 1 (bk 0 (lp (aC.for (ls.length) (fun i A Hq nq=>∃(Y:Heap) (ff1:F) (fs1:List F) (Pf1:List (Nat×O)),aL A [(0,vf (.ptr (sw) (0))),(8,vf (g)),(9,vi ls.length),(10,vi i)]∧aa Y Hq nq (cat [[(sw,.cells [lf,ff1,iN now] true)],Pf1,R])∧(ab X Y)∧(bS Y g ls)∧(av 8 ff1 fs1 Pf1)∧(aA (bM Y) 8 (fl++ls.take i) fs1)) ⟨X,ff,fs,Pf,az (ts:=[0,8,9,10]) kr,s0,(hm0),(hg),(hf),(by rw[List.take_zero,List.append_nil];exact hfl)⟩ (fun i A H n1 hi hI=>?_) (fun A H n1 hI=>?_))))))
 ·obtain⟨Y,ff1,fs1,Pf1,qA,s,hm0,hg,hf,hfl⟩:=hI
  refine To.keep _ ?_ qA.sub
  refine ag (ov 11 (lT i ls.length) (aj ?_))
  obtain⟨l,hx⟩:∃l,ls[i]?=some l:=⟨_,List.getElem?_eq_getElem hi⟩
  obtain⟨id,off,cap,all,exb,c,rfl,h2,h3,h4,hR⟩:=hg.at hx
  obtain⟨fp,fq,rfl,hp,hq⟩:=hR
  have hlo:=hok l (List.mem_of_getElem? hx)
  have hcl:=hfl.len
  have hll:(fl++ls.take i).length=fl.length+i:=by rw[List.length_append,List.length_take];omega
  refine sq (aM (nx (aD 1 (ag (ov 12 (ix id off 8 ls.length i) (ov 13 (aG (id:=id) (off:=off+i*8) (sz:=8) (c:=[iN l.kind,iN l.fr,iN l.to,iN l.tag,iN l.ip,iN l.ik,fp,fq]) (s.mono _ _ h2) h3 h4) ?_))))))
  obtain⟨_,s1,J⟩:=ay s (.cells [.int .i64 0,.int .i64 0,.int .i64 0,.int .i64 0,.int .i64 0,.int .i64 0,.sl0,.sl0] true)
  refine ov 5 (J _ _ (vf (.ptr (n1) (0)))) ?_
  obtain⟨_,s2,J⟩:=aI (off:=0) (new:=[iN l.kind,iN l.fr,iN l.to,iN l.tag,iN l.ip,iN l.ik,fp,fq]) (cs':=[iN l.kind,iN l.fr,iN l.to,iN l.tag,iN l.ip,iN l.ik,fp,fq]) s1 0 rfl sm rfl
  refine oe (J _ _) (aj (ag (ov 15 (la 0 8 [iN l.kind,iN l.fr,iN l.to,iN l.tag,iN l.ip,iN l.ik,fp,fq] (s2.at 0 rfl)) ?_)))
  obtain⟨_,_,_,_,m,s3,J,⟨k,rfl,hk,idk,lk,rfl⟩⟩:=(AR (l:=l) (fp:=fp) (fq:=fq) hlo hp hq s2.topX).on s2
  refine ov 16 (J _ _) ?_
  obtain⟨_,_,_,n2,m1,s4,J,⟨c2,rfl,hc2⟩⟩:=(Bi (l:=l) hlo hk s3.topX).on s3
  have hfl:=hfl.mono fun _ _ q=>bM.mono _ _ _ _ (m.tr m1) q
  refine ov 17 (J _ _) ?_
  have hc2l:c2.length=8:=by obtain⟨q1,q2,q3,_⟩:=hc2;rw[q3];rfl
  refine go 3 ?_
  obtain⟨_,s5,J⟩:=ay s4 (.cells [.int .i64 0,.int .i64 0,.int .i64 0,.int .i64 0,.int .i64 0,.int .i64 0,.sl0,.sl0] true)
  refine ov 6 (J _ _ (vf (.ptr (n2) (0)))) ?_
  obtain⟨_,s6,J⟩:=dv (sz:=8) (new:=c2) s5 0 rfl om rfl
  refine oe (J _ _) (ae 1 (ai 1 (ov 21 (eT 0 0) (go 4 (ov 26 (ld 1 (s6.at 2 rfl) rfl) (ov 27 (lv ((fl++ls.take i).length) (hf.lenC om hfl)) (ov 28 (lT ((fl++ls.take i).length) 500) (ae 1 (iT (dw [1,2,3,4,5,6,7,0,8,9,10] (sg [1,2,3] (sr (some 34) (sw) trivial (am (off:=1) (s6.at 2 rfl) rfl) (sr (some 35) (n2) trivial (aG (off:=0) (sz:=8) (c:=c2) (s6.at 0 rfl) om (by rw[List.drop_zero,List.take_of_length_le om])) ?_)))))))))))))
  obtain⟨W,_,s7,m2,f,J⟩:=lR (sz:=8) (c:=c2) s6 om
  have hm0:=hm0.tr (m.tr (m1.tr m2))
  have hg:=hg.mono (m.tr (m1.tr m2))
  have hfl:=hfl.mono fun _ _ q=>bM.mono _ _ _ _ m2 q
  have hc2:=bM.mono _ _ _ _ m2 hc2
  refine sf (some 36) (J _ _) ⟨ki,ke (s6.at 2 rfl) (s7.at 2 rfl),trivial⟩ ?_
  obtain⟨a,_,_,_,ho698,s8,J⟩:=b6 (sz:=8) (bytes:=96) (x:=.sl (n2+1) (0) 8 (1) none) (new:=c2) [_] [_] s7 (hf) (bf (s7.mono _ _ f) om) (rfl) om om
  refine sf (some 37) (J _ _) (oR kr) (sg [0,8,9] ?_)
  obtain⟨_,s9,J⟩:=aI (off:=1) (new:=[a]) (cs':=[lf,a,iN now]) s8 2 rfl sm rfl
  refine sf none (J _ _) (oR kr) (sx (nx (rg (ov 40 (aN i 1) (aR 1 ?_)))))
  exact .inl ⟨rfl,W,a,_,_,az (ts:=[0,8,9,10]) kr,aa.tl (aa.tl s9),(hm0),(hg),(ho698),(by rw[bU hx,←List.append_assoc];exact hfl.snoc hc2 hc2l)⟩
 ·obtain⟨Y,ff1,fs1,Pf1,qA,s10,hm0,hg,hf,hfl⟩:=hI
  refine To.keep _ ?_ qA.sub
  refine ag (ov 11 (lF ls.length ls.length) (aj ?_))
  rw[List.take_length]at hfl
  refine sq (iF (xt 0 ?_))
  refine⟨sm,?_⟩
  exact⟨.inl rfl,_,kr,Y,_,aa.fin (Ps:=[_,_]) s10,hm0,rfl,ff1,fs1,Pf1,rfl,hf,hfl⟩
end Go.Proofs.YtkimkgbppegkhaaGreat.Cm
