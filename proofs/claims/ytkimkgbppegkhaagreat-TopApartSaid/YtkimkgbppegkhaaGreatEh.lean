/- The clean machine's walks of peers (3): data saved, data deleted. · The clean machine's walks of peers (4): what is deleted. · The clean machine's walks of peers (5): what is answered to one who looks. · The clean machine's walks of peers (6): whether records tell all. -/
import Derived.Test.YtkimkgbppegkhaaGreatEd
set_option linter.unusedVariables false
set_option linter.unusedSimpArgs false
namespace Go.Proofs.YtkimkgbppegkhaaGreat.Cm
open Go Go.RowKit Go.Proofs.YtkimkgbppegkhaaGreat.Gf
set_option maxRecDepth 1000000
theorem j2.mono{α:Type}{R:Heap→α→List F→Prop}{sz:Nat}{X Y:Heap}{ls:List (List α)}{fl:List F}(hR:∀X Y a c,ab X Y→R X a c→R Y a c)(hm:ab X Y)(h:j2 R sz X ls fl):j2 R sz Y ls fl:=⟨h.1,fun i f l h1 h2=>(h.2 i f l h1 h2).mono hR hm⟩
theorem yk{X:Heap}{g:F}{n a:Nat}{r:List Rg}(h:bS X g (delL n a r)):∃fs m,aF X 8 g=some fs∧aA (bM X) 8 (delL n a r) fs∧cd g=some m∧fs.length=m*8∧m≤1:=by
 obtain⟨fs,h1,h2⟩:=h.row
 exact⟨fs,_,h1,h2,h.lenA,h2.len,rA⟩
theorem Dq{X:Heap}{n:Nat}{pid:Nat}{s:aq}{P0:List (Nat×O)}(hpe:bz X pid s P0){now B N M:Nat}{fd:F}{data:List Nat}(h:b7 B N M)(hfd:aB X fd data)(hB:data.length=B)(hcp:eO fd)(hb8:B8 data)(hnow:now≤1000)(hn:s.n≤1000)(hS:s.kn.length≤3)(hla:s.last≤1000)(hgu:bK s.st.gone s.n (s.last+1)=none)(hdis:∀x∈s.st.sy,bu x≠(s.n,s.last+1))(hsy:s.st.sy.length≤300)(hlg:s.st.lg≤400000000):al 77 [vf (.ptr (pid) (0)),vi now,vf (fd),vi N,vi M] X n (P0) fun v X' P'=>(v=.tup [.agg [iN 0,iN 0],.f .sl0,.f (.int .i64 4)]∧bz X' pid s P')∨∃g bl l,∃rows:List (List Rc),∃st2,v=.tup [.agg [iN s.n,iN (s.last+1)],.f g,.f (.int .i64 0)]∧bl.length=blkS B N M∧eQ data B N M bl∧l.Perm (s.kn++[s.n])∧rows.length=l.length∧rows.flatten.Perm (recU N 2 bl bl.length)∧bS X' g (outL s.n l (rows.map (List.map (aY s.n (s.last+1) (now+9000) B N M))))∧ce s.st (ownL s.n l (rows.map (List.map (aY s.n (s.last+1) (now+9000) B N M)))) st2∧st2.lg≤s.st.lg+4000000∧bz X' pid {s with last:=s.last+1,st:=st2} P':=by
 obtain⟨sid,tid,opf,lf,wf,Pw,Ps,Pt,Po,rfl,hw,hcw,hst,htk,hop⟩:=hpe
 refine al.of_to (Ps:=[[(pid,.cells [.ptr (sid) (0),.ptr (tid) (0),iN s.n,iN 9000,iN s.last,iN 0,iN s.tag,opf,lf,iN s.wl] true)],Pw,Ps,Pt,Po]) kr fun R H0 s0=>?_
 have hm0:ab X X:=ab.rfl
 refine ag ?_
 obtain⟨_,s1,J⟩:=ay s0 (.cells [.int .i64 0,.int .i64 0] true)
 refine ov 10 (J _ _ (vf (.ptr (n) (0)))) (ae 2 (sq (ah 2 (ar (nx (ai 1 (ov 25 (lv B (hB▸hfd.lenA)) (go 4 ?_))))))))
 obtain⟨_,W,_,n3,m,s2,J,⟨g0,e0,rfl,hor⟩⟩:=(Ds data h hfd hB hcp s1.topX).on s1
 have hm0:=hm0.tr m
 have hst:=hst.mono m
 have hop:=hop.mono m
 refine ov 30 (J _ _) ?_
 rcases hor with⟨rfl,o,bl,rfl,hO,hbl,hA⟩|⟨rfl,rfl,_⟩
 ·refine ae 5 (aP 1 (ov 34 (uF 0 0) (aj (ar (nx (ai 3 (ov 40 (ld 4 (s2.at 1 rfl) rfl) (ov 41 (aN s.last 1) (go 2 ?_)))))))))
  obtain⟨_,s3,J⟩:=aI (off:=4) (new:=[iN (s.last+1)]) (cs':=[.ptr (sid) (0),.ptr (tid) (0),iN s.n,iN 9000,iN (s.last+1),iN 0,iN s.tag,opf,lf,iN s.wl]) s2 1 rfl sm rfl
  refine oe (J _ _) (aQ (dw [0,1,2,3,4,5,6,7,8,9,10] (sg [0,1,2] (sr (some 47) (pid) trivial (am (off:=2) (s3.at 1 rfl) rfl) (sg [4,5,6] (sr (some 51) (pid) trivial (am (off:=4) (s3.at 1 rfl) rfl) (sg [8] ?_)))))))
  obtain⟨_,s4,J⟩:=ay s3 (.cells [.int .i64 0,.int .i64 0] true)
  refine sf (some 15) (J _ _ (vf (.ptr (n3) (0)))) ⟨ke (s3.at 1 rfl) (s4.at 2 rfl),ke (s3.at 1 rfl) (s4.at 2 rfl),trivial⟩ ?_
  obtain⟨_,s5,J⟩:=aI (off:=0) (new:=[iN s.n,iN (s.last+1)]) (cs':=[iN s.n,iN (s.last+1)]) s4 0 rfl sm rfl
  refine sf none (J _ _) (oR kr) (sx (nx (ag ?_)))
  have s6:=aa.outAt [_,_] [] s5
  have s7:=aa.pck [_] [_] [_,_,_,_,_] s6
  refine go 1 ?_
  obtain⟨_,_,_,_,Q1,m1,s8,J,⟨a,l,Pa,rfl,rfl,ha,hl⟩⟩:=(xh (s:={s with last:=s.last+1}) (P0:=cat [[(pid,.cells [.ptr (sid) (0),.ptr (tid) (0),iN s.n,iN 9000,iN (s.last+1),iN 0,iN s.tag,opf,lf,iN s.wl] true)],Pw,Ps,Pt,Po]) ⟨sid,tid,opf,lf,wf,Pw,Ps,Pt,Po,rfl,hw,hcw,hst,htk,hop⟩ (by show s.kn.length≤12;omega)).on [_] [_] s7
  refine ov 54 (J _ _) ?_
  have s9:=aa.unp [_] [_] [_,_] s8
  obtain⟨_,m3,s10,hrow⟩:=av.frz (ha) [_,_] [_] s9
  have hl:l.Perm (s.kn++[s.n]):=hl
  have hll:=hl.length_eq
  rw[List.length_append,List.length_singleton]at hll
  have s11:=aa.unp [_] [_] [_,_,_,_,_] s10
  have s12:=aa.inn [] [_,_,_,_,_] s11
  refine ae 1 (ah 1 (sq (sq (dw [2,3,0,1,4,5,6,7,8,9,10,11,12,13] (sg [2] ?_)))))
  obtain⟨_,_,_,_,m4,s13,J,rfl⟩:=(jG (a:=now) om s12.topX).on s12
  have hO:=hO.mono (m1.tr (m3.tr m4))
  refine sf (some 58) (J _ _) trivial (sg [0] (sr (some 56) (n3) ⟨ke (s12.at 1 rfl) (s13.at 1 rfl),trivial⟩ (aG (off:=0) (sz:=2) (c:=[iN s.n,iN (s.last+1)]) (s13.at 1 rfl) sm rfl) (sg [4,5,6] (sr (some 62) (pid) ⟨ke (s12.at 0 rfl) (s13.at 0 rfl),trivial⟩ (am (off:=3) (s13.at 0 rfl) rfl) (ss (some 63) (au (eo (now) (9000) om)) ?_)))))
  obtain⟨_,_,_,_,m5,s14,J,⟨gr,rfl,hgr⟩⟩:=(AE (o:=o) (ip:=s.n) (ik:=s.last+1) (u:=now+9000) (x:=2) data bl h hb8 om hO hbl hA s13.topX).on s13
  have hrow:=aO (m4.tr m5) hrow
  refine sf (some 64) (J _ _) (oR kr) ?_
  obtain⟨ho1,hok1⟩:=pz (x:=2) hb8 h om hbl hA
  have hrl0:=mq (N:=N) (x:=2) (bl:=bl) hA bl.length (Nat.le_refl _)
  have hks:=(dq h).2.1
  have hk1:=(dq h).1
  have hsl:=(fQ h).2.1
  rw[hbl,hks,←hbl]at hrl0
  refine sg [10] ?_
  obtain⟨_,W,_,_,m6,s15,J,⟨k,fl,rows,rfl,hk,hrf,hrl,hpm⟩⟩:=(Bn (g:=a) hgr hrow om om om (fun r hr=>(hok1 r hr).2.2.1) h.n1 (Nat.le_trans h.n2 om) s14.topX).on s14
  have hm0:=hm0.tr (m1.tr (m3.tr (m4.tr (m5.tr m6))))
  have hst:=hst.mono (m1.tr (m3.tr (m4.tr (m5.tr m6))))
  have hop:=hop.mono (m1.tr (m3.tr (m4.tr (m5.tr m6))))
  have hrow:=aO m6 hrow
  refine sf (some 66) (J _ _) (oR kr) ?_
  have hpl:=hpm.length_eq
  obtain⟨hsy2,hall⟩:=xU (st:=s.st) (n:=s.n) (u:=now+9000) (l:=l) hb8 h hbl hA hpm om om om om hgu hdis hsy
  obtain⟨id,off,cap,rfl,hat⟩:=cW hrow (by simp[is];omega)
  have s16:=aa.outAt [] [_,_] s15
  have s17:=aa.pck [_] [_] [_,_,_,_,_] s16
  have s18:=aa.addN s17 (rfl)
  refine sr (some 67) (k) (oE kr) (fC (l:=l.length)) (sg [13] (sx (nx (bk 0 (lp (aC.for (l.length) (fun i A Hq nq=>∃(Y:Heap) (st1:bi) (P1:List (Nat×O)) (ac:F) (fs:List F) (Pc:List (Nat×O)),aL A [(0,vf (.ptr (pid) (0))),(10,vf (.ptr (n) (0))),(15,vf (.ptr (n3) (0))),(16,vf (.sl (id) (off) 1 ((is l).length) cap)),(17,vf (ac)),(66,vf (.sl (k) (0) 1 (l.length) none)),(67,vi l.length),(68,vi i)]∧aa Y Hq nq (cat [[(n3,.cells [iN s.n,iN (s.last+1)] true),(n,.cells [.int .i64 0,.int .i64 0] true)],P1,R,Pc])∧(ab X Y)∧(bz Y pid {s with last:=s.last+1,st:=st1} P1)∧(av 8 ac fs Pc)∧(aA (bM Y) 8 (outL s.n (l.take i) ((rows.map (List.map (aY s.n (s.last+1) (now+9000) B N M))).take i)) fs)∧(ce s.st (ownL s.n (l.take i) ((rows.map (List.map (aY s.n (s.last+1) (now+9000) B N M))).take i)) st1)∧(st1.lg≤s.st.lg+i*100000)∧(∀(i:Nat) x,(is l)[i]?=some x→cn Y id (off+i) x)∧(Y k=some (.cells fl true))∧(j2 (cA s.n (s.last+1) (now+9000) B N M) 10 Y rows fl)) ⟨W,s.st,cat [[(pid,.cells [.ptr (sid) (0),.ptr (tid) (0),iN s.n,iN 9000,iN (s.last+1),iN 0,iN s.tag,opf,lf,iN s.wl] true)],Pw,Ps,Pt,Po],.sl0,[],[],az (ts:=[0,10,15,16,17,66,67,68]) kr,s18,(hm0),(⟨sid,tid,opf,lf,wf,Pw,Ps,Pt,Po,rfl,hw,hcw,hst,htk,hop⟩),(av.nil 8),(rfl),(.nil _),om,(hat),(hk),(hrf)⟩ (fun i A H n4 hi hI=>?_) (fun A H n4 hI=>?_)))))))
  ·obtain⟨Y,st1,P1,ac,fs,Pc,qA,s19,hm0,hpe,hac,hcf,hq,hle0,hat,hk,hrf⟩:=hI
   refine To.keep _ ?_ qA.sub
   refine ag (ov 69 (lT i l.length) (aj ?_))
   have hil:=dI l
   obtain⟨f,hf⟩:∃f,fl[i]?=some f:=⟨_,List.getElem?_eq_getElem (by rw[hrf.1,hrl];exact hi)⟩
   obtain⟨r,hr⟩:∃r,rows[i]?=some r:=⟨_,List.getElem?_eq_getElem om⟩
   obtain⟨q,hq1⟩:∃q,l[i]?=some q:=⟨_,List.getElem?_eq_getElem hi⟩
   have hrw:(rows.map (List.map (aY s.n (s.last+1) (now+9000) B N M)))[i]?=some (r.map (aY s.n (s.last+1) (now+9000) B N M)):=by rw[List.getElem?_map,hr];rfl
   have hrl2:(rows.map (List.map (aY s.n (s.last+1) (now+9000) B N M))).length=l.length:=by rw[List.length_map];exact hrl
   have hsub:=List.sublist_flatten_of_mem (List.mem_of_getElem? hr)
   have hfl:=hsub.length_le
   have hdl:=rA (n:=s.n) (a:=q) (r:=r.map (aY s.n (s.last+1) (now+9000) B N M))
   have hcl:=hcf.len
   have hol:=kW (n:=s.n) (l.take i) ((rows.map (List.map (aY s.n (s.last+1) (now+9000) B N M))).take i)
   rw[List.length_take]at hol
   refine sq (aM (nx (aD 1 (ai 1 (ov 71 (ix k 0 1 l.length i) (ov 72 (am (id:=k) (off:=0+i*1) (x:=f) (s19.mono _ _ hk) (by rw[Nat.zero_add,Nat.mul_one];exact hf)) (ae 2 (rg (go 4 (ov 77 (ix id off 1 ((is l).length) i) (ov 78 (lx id (off+i*1) (iN q) (by rw[Nat.mul_one];exact(hat i _ (jd hq1)).mono (s19.mono _))) (go 1 ?_))))))))))))
   obtain⟨_,W,_,_,P2,m7,s20,J,⟨g,rfl,hg,st2,hds,hle,hpe⟩⟩:=(uh (s:={s with last:=s.last+1,st:=st1}) (P0:=P1) (to:=q) hpe (sY (hrf.2 i f r hf hr)) (fun x hx=>by
    obtain⟨y,h1,rfl⟩:=List.mem_map.1 hx
    exact(hsy2 y (hsub.subset h1)).ok) (xf hall hrl2 hq1 hrw hq) (by rw[List.length_map];omega) (by show st1.lg≤_;omega)).on [_] [_,_] s19
   have hm0:=hm0.tr m7
   have hcf:=hcf.mono fun _ _ q=>bM.mono _ _ _ _ m7 q
   have hat:=fun i x h=>(hat i x h).mono (m7 _)
   have hk:=m7 _ _ hk
   have hrf:=j2.mono (cA.mono (ip:=s.n) (ik:=s.last+1) (u:=now+9000) (B:=B) (N:=N) (M:=M)) m7 hrf
   refine ov 80 (J _ _) ?_
   have hq:=vJ hrl2 hq1 hrw hq hds
   obtain⟨fs2,m2,hr2,hc2,hm2,hf2,hm1⟩:=yk hg
   obtain⟨_,_,_,_,ho810,s21,J⟩:=b6 (sz:=8) (bytes:=96) (x:=g) (new:=fs2) [_,_,_] [] s20 (hac) (aO s20.mono hr2) (hm2) om om
   refine ov 81 (J _ _) (ae 1 (rg (ov 82 (aN i 1) (aR 1 ?_))))
   exact .inl ⟨rfl,W,_,_,_,_,_,az (ts:=[0,10,15,16,17,66,67,68]) kr,s21,(hm0),(hpe),(ho810),(by rw[vR hrl2 hq1 hrw];exact hcf.append hc2),(hq),(by show st2.lg≤_;have hle:st2.lg≤st1.lg+_:=hle;rw[List.length_map]at hle;omega),(hat),(hk),(hrf)⟩
  ·obtain⟨Y,st1,P1,ac,fs,Pc,qA,s22,hm0,hpe,hac,hcf,hq,hle0,hat,hk,hrf⟩:=hI
   refine To.keep _ ?_ qA.sub
   refine ag (ov 69 (lF l.length l.length) (aj ?_))
   rw[List.take_of_length_le (Nat.le_refl _),List.take_of_length_le (by rw[List.length_map];omega)]at hcf hq
   obtain⟨W,m8,s23,hg⟩:=av.frzS (hac) (hcf) om bM.mono [_,_,_] [] s22
   have hm0:=hm0.tr m8
   have hpe:=hpe.mono m8
   have hk:=m8 _ _ hk
   refine sq (iF (xt 0 ?_))
   refine⟨sm,?_⟩
   show To Tryz.prog 77 [1,1,1,1,1,1,1,1,1] _ _ _ _
   refine ag (ov 83 (la 0 2 [iN s.n,iN (s.last+1)] (s23.at 0 rfl)) (go 1 ?_))
   obtain⟨_,s24,J⟩:=aI (off:=0) (new:=[iN s.n,iN (s.last+1)]) (cs':=[iN s.n,iN (s.last+1)]) s23 1 rfl sm rfl
   refine oe (J _ _) (ax 2 ?_)
   exact⟨.inr rfl,_,cS (s24.at 1 rfl) kr kr,W,_,aa.fin1 s24,hm0,.inr ⟨ac,bl,l,rows,st1,rfl,hbl,hA,hl,hrl,hpm,hg,hq,by have:=hl.length_eq;rw[List.length_append,List.length_singleton]at this;omega,hpe⟩⟩
 ·refine ae 5 (aP 1 (ov 34 (uT 4 0) (aj (iT (ai 2 ?_)))))
  obtain⟨_,s25,J⟩:=aI (off:=0) (new:=[.int .i64 0,.int .i64 0]) (cs':=[.int .i64 0,.int .i64 0]) s2 0 rfl sm rfl
  refine oe (J _ _) (ax 2 ?_)
  exact⟨.inr rfl,_,cS (s25.at 0 rfl) kr kr,W,_,aa.fin (Ps:=[_,_,_,_,_]) (aa.out0 (aa.outAt [_] [] s25)),hm0,.inl ⟨rfl,⟨sid,tid,opf,lf,wf,Pw,Ps,Pt,Po,rfl,hw,hcw,hst,htk,hop⟩⟩⟩
theorem ck.tomb{X:Heap}{k ip ik u:Nat}(h:X k=some (.cells [iN ip,iN ik,iN 0,iN 0,iN 0,iN 0,iN 0,.bool true,iN u,.sl0] true)):ck X (.sl k 0 10 1 none) [.tb ip ik u]:=.inr ⟨k,0,none,_,true,rfl,h,sm,aA.one rfl rfl⟩
theorem u0{n:Nat}{r:List Rg}:∀(l:List Nat),ownL n l (l.map fun _=>r)=((l.filter fun a=>decide (a=n)).map fun _=>r).flatten
 |[]=>rfl
 |a::l=>by
  show(if a=n then r else[])++ownL n l (l.map fun _=>r)=_
  rw[u0 l,List.filter_cons]
  by_cases h:a=n
  ·simp[h]
  ·simp[h]
theorem wG{n:Nat}{r:List Rg}{l kn:List Nat}(h:l.Perm (kn++[n]))(hn:n∉kn):ownL n l (l.map fun _=>r)=r:=by
 have h1:=h.filter fun a=>decide (a=n)
 have h0:(kn.filter fun a=>decide (a=n))=[]:=List.filter_eq_nil_iff.2 fun a ha=>by simp;rintro rfl;exact hn ha
 rw[List.filter_append,h0,List.nil_append,show(List.filter (fun a=>decide (a=n)) [n])=[n]by simp]at h1
 rw[u0,List.perm_singleton.1 h1]
 simp
theorem Bv{X:Heap}{n:Nat}{pid:Nat}{s:aq}{P0:List (Nat×O)}(hpe:bz X pid s P0){now ip ik:Nat}(hnow:now≤1000)(h1:ip≤1000)(h2:1≤ik)(h3:ik≤2000)(hnk:s.n∉s.kn)(hS:s.kn.length≤3)(hgu:bK s.st.gone ip ik=none)(hsy:s.st.sy.length<500)(hlg:s.st.lg≤400000000):al 79 [vf (.ptr (pid) (0)),vi now,.u (.agg [iN ip,iN ik])] X n (P0) fun v X' P'=>∃g l st2,v=vf g∧l.Perm (s.kn++[s.n])∧bS X' g (outL s.n l (l.map fun _=>[Rg.tb ip ik (now+9000)]))∧ce s.st [.tb ip ik (now+9000)] st2∧st2.lg≤s.st.lg+1000∧bz X' pid {s with st:=st2} P':=by
 obtain⟨sid,tid,opf,lf,wf,Pw,Ps,Pt,Po,rfl,hw,hcw,hst,htk,hop⟩:=hpe
 refine al.of_to (Ps:=[[(pid,.cells [.ptr (sid) (0),.ptr (tid) (0),iN s.n,iN 9000,iN s.last,iN 0,iN s.tag,opf,lf,iN s.wl] true)],Pw,Ps,Pt,Po]) kr fun R H0 s0=>?_
 have hm0:ab X X:=ab.rfl
 refine ag ?_
 obtain⟨_,s1,J⟩:=ay s0 (.cells [iN ip,iN ik] true)
 refine ov 5 (J _ _ (vf (.ptr (n) (0)))) (ae 1 (sq (ah 2 (ar (nx (ah 1 (sq (ag ?_))))))))
 have s2:=aa.outAt [_] [] s1
 have s3:=aa.pck [_] [_] [_,_,_,_,_] s2
 refine go 1 ?_
 obtain⟨_,_,_,_,Q1,m,s4,J,⟨a,l,Pa,rfl,rfl,ha,hl⟩⟩:=(xh (s:=s) (P0:=cat [[(pid,.cells [.ptr (sid) (0),.ptr (tid) (0),iN s.n,iN 9000,iN s.last,iN 0,iN s.tag,opf,lf,iN s.wl] true)],Pw,Ps,Pt,Po]) ⟨sid,tid,opf,lf,wf,Pw,Ps,Pt,Po,rfl,hw,hcw,hst,htk,hop⟩ om).on [_] [_] s3
 refine ov 13 (J _ _) ?_
 have s5:=aa.unp [_] [_] [_,_] s4
 obtain⟨W,m1,s6,hrow⟩:=av.frz (ha) [_,_] [_] s5
 have hm0:=hm0.tr (m.tr m1)
 have hst:=hst.mono (m.tr m1)
 have hop:=hop.mono (m.tr m1)
 have hll:=hl.length_eq
 rw[List.length_append,List.length_singleton]at hll
 have hall:eh s.st (ownL s.n l (l.map fun _=>[Rg.tb ip ik (now+9000)])):=by rw[wG hl hnk];exact xL hgu hsy
 refine ov 14 (lv l.length ((cQ hrow).trans (by simp[is]))) ?_
 obtain⟨id,off,cap,rfl,hat⟩:=cW hrow (by simp[is];omega)
 have s7:=aa.addN s6 (rfl)
 refine ae 1 (bk 0 (lp (aC.for (l.length) (fun i A Hq nq=>∃(Y:Heap) (st1:bi) (P1:List (Nat×O)) (ac:F) (fs:List F) (Pc:List (Nat×O)),aL A [(0,vf (.ptr (pid) (0))),(1,vi now),(5,vf (.ptr (n) (0))),(7,vf (ac)),(13,vf (.sl (id) (off) 1 ((is l).length) cap)),(14,vi l.length),(15,vi i)]∧aa Y Hq nq (cat [[(n,.cells [iN ip,iN ik] true)],P1,R,Pc])∧(ab X Y)∧(bz Y pid {s with st:=st1} P1)∧(av 8 ac fs Pc)∧(aA (bM Y) 8 (outL s.n (l.take i) ((l.map fun _=>[Rg.tb ip ik (now+9000)]).take i)) fs)∧(ce s.st (ownL s.n (l.take i) ((l.map fun _=>[Rg.tb ip ik (now+9000)]).take i)) st1)∧(st1.lg≤s.st.lg+i*100)∧(∀(i:Nat) x,(is l)[i]?=some x→cn Y id (off+i) x)) ⟨W,s.st,cat [[(pid,.cells [.ptr (sid) (0),.ptr (tid) (0),iN s.n,iN 9000,iN s.last,iN 0,iN s.tag,opf,lf,iN s.wl] true)],Pw,Ps,Pt,Po],.sl0,[],[],az (ts:=[0,1,5,7,13,14,15]) kr,s7,(hm0),(⟨sid,tid,opf,lf,wf,Pw,Ps,Pt,Po,rfl,hw,hcw,hst,htk,hop⟩),(av.nil 8),(rfl),(.nil _),om,(hat)⟩ (fun i A H n1 hi hI=>?_) (fun A H n1 hI=>?_))))
 ·obtain⟨Y,st1,P1,ac,fs,Pc,qA,s8,hm0,hpe,hac,hcf,hq,hle0,hat⟩:=hI
  refine To.keep _ ?_ qA.sub
  refine ag (ov 16 (lT i l.length) (aj ?_))
  have hil:=dI l
  obtain⟨q,hq1⟩:∃q,l[i]?=some q:=⟨_,List.getElem?_eq_getElem hi⟩
  have hrw:(l.map fun _=>[Rg.tb ip ik (now+9000)])[i]?=some [.tb ip ik (now+9000)]:=by rw[List.getElem?_map,hq1];rfl
  have hrl2:(l.map fun _=>[Rg.tb ip ik (now+9000)]).length=l.length:=by rw[List.length_map]
  have hcl:=hcf.len
  have hol:=kW (n:=s.n) (l.take i) ((l.map fun _=>[Rg.tb ip ik (now+9000)]).take i)
  rw[List.length_take]at hol
  refine sq (aM (nx (aD 1 (ag (ov 17 (ix id off 1 ((is l).length) i) (ov 18 (lx id (off+i*1) (iN q) (by rw[Nat.mul_one];exact(hat i _ (jd hq1)).mono (s8.mono _))) ?_))))))
  obtain⟨sid,tid,opf,lf,wf,Pw,Ps,Pt,Po,rfl,hw,hcw,hst,htk,hop⟩:=hpe
  have s9:=aa.unp [_] [_,_] [_,_,_,_,_] s8
  have s10:=aa.inn [] [_,_,_,_,_,_] s9
  refine ae 1 (dw [4,5,1,2,3,6,7,8,9,10,11,12,13,0,14,15] (sg [4] ?_))
  obtain⟨_,_,_,n2,m3,s11,J,rfl⟩:=(jG (a:=now) om s10.topX).on s10
  refine sf (some 24) (J _ _) trivial (sg [1,2] (sr (some 22) (n) ⟨ke (s10.at 1 rfl) (s11.at 1 rfl),trivial⟩ (aG (off:=0) (sz:=2) (c:=[iN ip,iN ik]) (s11.at 1 rfl) sm rfl) (sg [6,7,8] (sr (some 28) (pid) ⟨ke (s10.at 0 rfl) (s11.at 0 rfl),trivial⟩ (am (off:=3) (s11.at 0 rfl) rfl) (ss (some 29) (au (eo (now) (9000) om)) (sg [11] ?_))))))
  obtain⟨_,_,s12,m4,f,J⟩:=bj s11 (.cells [iN ip,iN ik,.int .i64 0,.int .i64 0,.int .i64 0,.int .i64 0,.int .i64 0,.bool true,iN (now+9000),.sl0] true)
  have hst:=hst.mono (m3.tr m4)
  have hop:=hop.mono (m3.tr m4)
  refine sf (some 31) (J _ _ (vf (.sl (n2) (0) 10 (1) none))) (oR kr) ?_
  have hnx:=f
  have s13:=aa.outAt [] [_] s12
  have s14:=aa.pck [_] [_,_] [_,_,_,_,_] s13
  obtain⟨_,W,_,_,P2,m5,s15,J,⟨g,rfl,hg,st2,hds,hle,hpe⟩⟩:=(uh (s:={s with st:=st1}) (P0:=cat [[(pid,.cells [.ptr (sid) (0),.ptr (tid) (0),iN s.n,iN 9000,iN s.last,iN 0,iN s.tag,opf,lf,iN s.wl] true)],Pw,Ps,Pt,Po]) (to:=q) ⟨sid,tid,opf,lf,wf,Pw,Ps,Pt,Po,rfl,hw,hcw,hst,htk,hop⟩ (ck.tomb hnx) (fun x hx=>by rw[List.mem_singleton]at hx;subst hx;exact⟨om,om,om,om⟩) (xf hall hrl2 hq1 hrw hq) sm (by show st1.lg≤_;omega)).on [_] [_,_] s14
  have f1:=m5 _ _ f
  have hm0:=hm0.tr (m3.tr (m4.tr m5))
  have hcf:=hcf.mono fun _ _ q=>bM.mono _ _ _ _ (m3.tr (m4.tr m5)) q
  have hat:=fun i x h=>(hat i x h).mono ((m3.tr (m4.tr m5)) _)
  have hnx:=m5 _ _ hnx
  refine sf (some 32) (J _ _) (oR kr) ?_
  have hq:=vJ hrl2 hq1 hrw hq hds
  obtain⟨fs2,m2,hr2,hc2,hm2,hf2,hm1⟩:=yk hg
  refine sg [0] ?_
  obtain⟨_,_,_,_,ho790,s16,J⟩:=b6 (sz:=8) (bytes:=96) (x:=g) (new:=fs2) [_,_,_] [] s15 (hac) (aO s15.mono hr2) (hm2) om om
  refine sf (some 33) (J _ _) (oR kr) (sg [15] (sx (nx (rg (ov 34 (aN i 1) (aR 1 ?_))))))
  exact .inl ⟨rfl,W,_,_,_,_,_,az (ts:=[0,1,5,7,13,14,15]) kr,s16,(hm0),(hpe),(ho790),(by rw[vR hrl2 hq1 hrw];exact hcf.append hc2),(hq),(by show st2.lg≤_;have hle:st2.lg≤st1.lg+1*100:=hle;omega),(hat)⟩
 ·obtain⟨Y,st1,P1,ac,fs,Pc,qA,s17,hm0,hpe,hac,hcf,hq,hle0,hat⟩:=hI
  refine To.keep _ ?_ qA.sub
  refine ag (ov 16 (lF l.length l.length) (aj ?_))
  rw[List.take_of_length_le (Nat.le_refl _),List.take_of_length_le (by rw[List.length_map];omega)]at hcf hq
  obtain⟨W,m6,s18,hg⟩:=av.frzS (hac) (hcf) om bM.mono [_,_,_] [] s17
  have hm0:=hm0.tr m6
  have hpe:=hpe.mono m6
  refine sq (iF (xt 0 ?_))
  refine⟨sm,?_⟩
  show To Tryz.prog 79 [1,1,1,1] _ _ _ _
  refine ah 2 (rt ?_)
  exact⟨.inr rfl,_,kr,W,_,aa.fin1 s18,hm0,ac,l,st1,rfl,hl,hg,by rw[wG hl hnk]at hq;exact hq,om,hpe⟩
/-- what a store tells of an object -/
def fu(st:bi)(ip ik:Nat):List Rg:=st.sy.filter (aW ip ik)++match bK st.gone ip ik with
 |none=>[]
 |some u=>[.tb ip ik u]
theorem Cn{X:Heap}{n:Nat}{a bid kind fr to tag ip ik:Nat}{fp fq:F}(hb:X bid=some (.cells [iN kind,iN fr,iN to,iN tag,iN ip,iN ik,fp,fq] true))(ht:ap X n):af 189 [vi a,vf (.ptr (bid) (0))] X n fun v _=>v=vf (.bool (decide (a=fr))):=by
 refine af.of_to kr ?_
 have s0:aa X X n (cat [[]]):=aa.ini ht
 have hm0:ab X X:=ab.rfl
 by_cases h:a=fr
 ·refine ah 1 (ai 2 (ov 6 (ld 1 (s0.mono _ _ hb) rfl) (ov 7 (eT a fr) (ax 1 ?_))))
  exact⟨.inr rfl,_,kr,X,_,s0,hm0,by rw[decide_eq_true h]⟩
 ·refine ah 1 (ai 2 (ov 6 (ld 1 (s0.mono _ _ hb) rfl) (ov 7 (eF a fr) (ax 1 ?_))))
  exact⟨.inr rfl,_,kr,X,_,s0,hm0,by rw[decide_eq_false h]⟩
theorem DL{X:Heap}{n:Nat}{pid:Nat}{s:aq}{P0:List (Nat×O)}(hpe:bz X pid s P0){kind fr to tag ip ik:Nat}{fp fq:F}(hS:s.kn.length≤4)(hsy:∀r∈s.st.sy,c5 r)(hlt:s.st.sy.length≤1000):al 136 [vf (.ptr (pid) (0)),.u (.agg [iN kind,iN fr,iN to,iN tag,iN ip,iN ik,fp,fq])] X n (P0) fun v X' P'=>∃g,∃l:List Nat,v=vf g∧l.Perm s.kn∧bS X' g [⟨2,s.n,fr,tag,ip,ik,l.filter fun a=> !decide (a=fr),fu s.st ip ik⟩]∧bz X' pid s P':=by
 obtain⟨sid,tid,opf,lf,wf,Pw,Ps,Pt,Po,rfl,hw,hcw,hst,htk,hop⟩:=hpe
 refine al.of_to (Ps:=[[(pid,.cells [.ptr (sid) (0),.ptr (tid) (0),iN s.n,iN 9000,iN s.last,iN 0,iN s.tag,opf,lf,iN s.wl] true)],Pw,Ps,Pt,Po]) kr fun R H0 s0=>?_
 have hm0:ab X X:=ab.rfl
 refine ag ?_
 obtain⟨_,s1,J⟩:=ay s0 (.cells [iN kind,iN fr,iN to,iN tag,iN ip,iN ik,fp,fq] true)
 refine ov 3 (J _ _ (vf (.ptr (n) (0)))) ?_
 obtain⟨_,m1,s2,f1⟩:=aa.frzC s1
 have hbx:=f1
 refine ae 1 (sq (dw [4,5,6,0,1,2,3,7,8,9,10] (sg [4] (sr (some 14) (n) trivial (aG (off:=4) (sz:=2) (c:=[iN ip,iN ik]) (s2.mono _ _ f1) sm rfl) ?_))))
 obtain⟨_,_,_,_,m2,s3,J,⟨kc,rfl,hkc⟩⟩:=((vI (a:=ip) (b:=ik) s2.topX).imp (Post':=fun v _=>∃kc,v=.u (.agg kc)∧dj kc) fun v _ h=>⟨_,h,iI _⟩).on s2
 have f4:=m2 _ _ f1
 refine sf (some 15) (J _ _) (oR kr) ?_
 have hkcl:=hkc.len
 refine sg [0,1,2] (sr (some 12) (pid) ⟨ke (s2.at 0 rfl) (s3.at 0 rfl),trivial⟩ (am (off:=1) (s3.at 0 rfl) rfl) ?_)
 obtain⟨_,_,_,_,Q1,m3,s4,J,⟨a,l,Pa,rfl,rfl,ha,hl⟩⟩:=(DS htk hS hkc).on [_,_,_] [_,_] s3
 have f5:=m3 _ _ f4
 have hbx:=(m2.tr m3) _ _ hbx
 refine sf (some 16) (J _ _) (oR kr) ?_
 have s5:=aa.unp [_,_,_] [_,_] [_,_] s4
 have hll:=hl.length_eq
 refine sg [8] ?_
 obtain⟨_,_,_,_,Pa,m4,s6,J,⟨f2,rfl,ha⟩⟩:=(ru (g:=189) (caps:=[.ptr n 0]) (fun a=>decide (a=fr)) ha om kr fun a _ Y m hm ht=>Cn (hm _ _ hbx) ht).on [_,_,_,_] [_,_] s5
 have f6:=m4 _ _ f5
 have hst:=hst.mono (m1.tr (m2.tr (m3.tr m4)))
 refine sf (some 18) (J _ _) (oR kr) (sg [10] (sx (nx (sq (dw [0,1,2,3,4,5,6,7] (sg [0,1,2] (sr (some 22) (pid) trivial (am (off:=0) (s6.at 0 rfl) rfl) (sg [4] (sr (some 24) (n) trivial (aG (off:=4) (sz:=2) (c:=[iN ip,iN ik]) (s6.mono _ _ f6) sm rfl) ?_)))))))))
 obtain⟨_,_,_,_,Q2,m5,s7,J,⟨f3,fn,Pn,rfl,rfl,hn,hcn⟩⟩:=(xb (ip:=ip) (ik:=ik) hst hsy hlt).on [_,_] [_,_,_,_] s6
 have f7:=m5 _ _ f6
 have hm0:=hm0.tr (m1.tr (m2.tr (m3.tr (m4.tr m5))))
 have hst:=hst.mono m5
 have hop:=hop.mono (m1.tr (m2.tr (m3.tr (m4.tr m5))))
 have hbx:=(m4.tr m5) _ _ hbx
 refine sf (some 25) (J _ _) (oR kr) ?_
 have s8:=aa.unp [_,_] [_,_,_,_] [_,_] s7
 refine sg [7] (sx (nx ?_))
 rcases hgo:bK s.st.gone ip ik with _ | u
 ·refine sq (sq (dw [0,1,2,3,4,5,6,7,8,10,11,9,12] (sg [0,1,2] (sr (some 30) (pid) trivial (am (off:=0) (s8.at 0 rfl) rfl) (sg [4] (sr (some 32) (n) trivial (aG (off:=4) (sz:=2) (c:=[iN ip,iN ik]) (s8.mono _ _ f7) sm rfl) ?_))))))
  obtain⟨_,_,_,n1,Ps,m6,s9,J,⟨rfl,rfl⟩⟩:=((nZ (ip:=ip) (ik:=ik) hst).imp (Post':=fun v _ P'=>P'=Ps∧v=.tup [.agg [iN 0,iN 0,iN 0,iN 0,iN 0,iN 0,iN 0,.bool false,iN 0,.sl0],.f (.bool false)]) fun v _ P' h=>⟨h.1,h.2.elim And.right fun q=>by obtain⟨u,h1,_⟩:=q;rw[hgo]at h1;cases h1⟩).on [_,_] [_,_,_,_,_] s8
  have f8:=m6 _ _ f7
  refine sf (some 33) (J _ _) (oR kr) ?_
  obtain⟨_,m7,s10,hrow⟩:=av.frz (ha) [_,_,_,_,_] [_,_] s9
  have f9:=m7 _ _ f8
  have hbx:=(m6.tr m7) _ _ hbx
  have hcn:=hcn.mono fun _ _ q=>q.mono _ _ _ _ (m6.tr m7)
  obtain⟨_,m8,s11,hrg⟩:=av.frzS (hn) (hcn) om aV.mono [_,_,_] [_,_,_] s10
  have f10:=m8 _ _ f9
  have hrg:=(List.append_nil (s.st.sy.filter (aW ip ik))).symm▸hrg
  refine sg [7,8] ?_
  obtain⟨_,s12,J⟩:=ay s11 (.cells [.int .i64 0,.int .i64 0,.int .i64 0,.int .i64 0,.int .i64 0,.int .i64 0,.int .i64 0,.bool false,.int .i64 0,.sl0] true)
  refine sf (some 7) (J _ _ (vf (.ptr (n1) (0)))) ⟨ke (s11.mono _ _ f10) (s12.mono _ _ f10),ke (s11.at 0 rfl) (s12.at 1 rfl),trivial⟩ ?_
  obtain⟨_,s13,J⟩:=aI (off:=0) (new:=[iN 0,iN 0,iN 0,iN 0,iN 0,iN 0,iN 0,.bool false,iN 0,.sl0]) (cs':=[iN 0,iN 0,iN 0,iN 0,iN 0,iN 0,iN 0,.bool false,iN 0,.sl0]) s12 0 rfl sm rfl
  refine sf none (J _ _) (oR kr) (sg [9,12] (sx (nx (ah 1 (ar (nx (sq (dw [0,1,2,3,4,5,6,7,8,9,10,11,12,13,14] (sg [0,1,2] (sr (some 44) (pid) trivial (am (off:=2) (s13.at 1 rfl) rfl) (sg [4] (sr (some 46) (n) trivial (am (off:=1) (s13.mono _ _ f10) rfl) (sg [6] (sr (some 48) (n) trivial (am (off:=3) (s13.mono _ _ f10) rfl) (sg [8] (sr (some 50) (n) trivial (aG (off:=4) (sz:=2) (c:=[iN ip,iN ik]) (s13.mono _ _ f10) sm rfl) (sg [10,11,12] ?_)))))))))))))))))
  obtain⟨W,_,s14,m9,f11,J⟩:=bj s13 (.cells [.int .i64 2,iN s.n,iN fr,iN tag,iN ip,iN ik,f2,f3] true)
  have hm0:=hm0.tr (m6.tr (m7.tr (m8.tr m9)))
  have hst:=hst.mono (m6.tr (m7.tr (m8.tr m9)))
  have hop:=hop.mono (m6.tr (m7.tr (m8.tr m9)))
  have hrow:=aO (m8.tr m9) hrow
  have hrg:=ck.mono m9 hrg
  refine sf (some 54) (J _ _ (vf (.sl (n1+1) (0) 8 (1) none))) (oR kr) (sg [14] (sx (nx (rt ?_))))
  exact⟨.inr rfl,_,kr,W,_,aa.fin (Ps:=[_,_,_,_,_]) (aa.tl s14),hm0,_,l,rfl,hl,bS.one f11 hrow (by rw[show fu s.st ip ik=_ by unfold fu;rw[hgo]];exact hrg),sid,tid,opf,lf,wf,Pw,Ps,Pt,Po,rfl,hw,hcw,hst,htk,hop⟩
 ·refine sq (sq (dw [0,1,2,3,4,5,6,7,8,10,11,9,12] (sg [0,1,2] (sr (some 30) (pid) trivial (am (off:=0) (s8.at 0 rfl) rfl) (sg [4] (sr (some 32) (n) trivial (aG (off:=4) (sz:=2) (c:=[iN ip,iN ik]) (s8.mono _ _ f7) sm rfl) ?_))))))
  obtain⟨_,_,_,n2,Ps,m10,s15,J,⟨rfl,rfl⟩⟩:=((nZ (ip:=ip) (ik:=ik) hst).imp (Post':=fun v _ P'=>P'=Ps∧v=.tup [.agg [iN ip,iN ik,.int .i64 0,.int .i64 0,.int .i64 0,.int .i64 0,.int .i64 0,.bool true,iN u,.sl0],.f (.bool true)]) fun v _ P' h=>⟨h.1,h.2.elim (fun q=>by rw[hgo]at q;cases q.1) fun q=>by obtain⟨u2,h1,h2⟩:=q;rw[hgo]at h1;cases h1;exact h2⟩).on [_,_] [_,_,_,_,_] s8
  have f12:=m10 _ _ f7
  have hcn:=hcn.mono fun _ _ q=>q.mono _ _ _ _ m10
  refine sf (some 33) (J _ _) (oR kr) ?_
  have hfl:=hcn.len
  have hfz:=List.length_filter_le (aW ip ik) s.st.sy
  refine sg [7,8] ?_
  obtain⟨_,s16,J⟩:=ay s15 (.cells [.int .i64 0,.int .i64 0,.int .i64 0,.int .i64 0,.int .i64 0,.int .i64 0,.int .i64 0,.bool false,.int .i64 0,.sl0] true)
  refine sf (some 7) (J _ _ (vf (.ptr (n2) (0)))) ⟨ke (s15.mono _ _ f12) (s16.mono _ _ f12),ke (s15.at 0 rfl) (s16.at 1 rfl),trivial⟩ ?_
  obtain⟨_,s17,J⟩:=aI (off:=0) (new:=[iN ip,iN ik,.int .i64 0,.int .i64 0,.int .i64 0,.int .i64 0,.int .i64 0,.bool true,iN u,.sl0]) (cs':=[iN ip,iN ik,.int .i64 0,.int .i64 0,.int .i64 0,.int .i64 0,.int .i64 0,.bool true,iN u,.sl0]) s16 0 rfl sm rfl
  refine sf none (J _ _) (oR kr) (sg [9,12] (sx (nx (ah 1 (iT (rg (go 1 (ov 38 (la 0 10 [iN ip,iN ik,.int .i64 0,.int .i64 0,.int .i64 0,.int .i64 0,.int .i64 0,.bool true,iN u,.sl0] (s17.at 0 rfl)) ?_))))))))
  obtain⟨_,_,s18,m11,f13,J⟩:=bj s17 (.cells [iN ip,iN ik,.int .i64 0,.int .i64 0,.int .i64 0,.int .i64 0,.int .i64 0,.bool true,iN u,.sl0] true)
  have f14:=m11 _ _ f12
  have hcn:=hcn.mono fun _ _ q=>q.mono _ _ _ _ m11
  refine ov 39 (J _ _ (vf (.sl (n2+1) (0) 10 (1) none))) ?_
  obtain⟨a1,_,n3,_,ho833,s19,J⟩:=b6 (sz:=10) (bytes:=96) (x:=.sl (n2+1) (0) 10 (1) none) (new:=[iN ip,iN ik,.int .i64 0,.int .i64 0,.int .i64 0,.int .i64 0,.int .i64 0,.bool true,iN u,.sl0]) [_,_,_] [_,_,_,_] s18 (hn) (bf (s18.mono _ _ f13) rfl) (rfl) om om
  refine ov 40 (J _ _) ?_
  have hn:=ho833
  have hcn:=hcn.snoc (show aV _ (.tb ip ik u) _ from rfl) rfl
  obtain⟨_,m12,s20,hrow⟩:=av.frz (ha) [_,_,_,_,_] [_,_] s19
  have f15:=m12 _ _ f14
  have f16:=m12 _ _ f13
  have hbx:=(m10.tr (m11.tr m12)) _ _ hbx
  have hcn:=hcn.mono fun _ _ q=>q.mono _ _ _ _ m12
  obtain⟨_,m13,s21,hrg⟩:=av.frzS (hn) (hcn) om aV.mono [_,_,_] [_,_,_] s20
  have f17:=m13 _ _ f15
  refine ae 1 (sq (dw [0,1,2,3,4,5,6,7,8,9,10,11,12,13,14] (sg [0,1,2] (sr (some 44) (pid) trivial (am (off:=2) (s21.at 1 rfl) rfl) (sg [4] (sr (some 46) (n) trivial (am (off:=1) (s21.mono _ _ f17) rfl) (sg [6] (sr (some 48) (n) trivial (am (off:=3) (s21.mono _ _ f17) rfl) (sg [8] (sr (some 50) (n) trivial (aG (off:=4) (sz:=2) (c:=[iN ip,iN ik]) (s21.mono _ _ f17) sm rfl) (sg [10,11,12] ?_)))))))))))
  obtain⟨W,_,s22,m14,f18,J⟩:=bj s21 (.cells [.int .i64 2,iN s.n,iN fr,iN tag,iN ip,iN ik,f2,a1] true)
  have hm0:=hm0.tr (m10.tr (m11.tr (m12.tr (m13.tr m14))))
  have hst:=hst.mono (m10.tr (m11.tr (m12.tr (m13.tr m14))))
  have hop:=hop.mono (m10.tr (m11.tr (m12.tr (m13.tr m14))))
  have hrow:=aO (m13.tr m14) hrow
  have hrg:=ck.mono m14 hrg
  refine sf (some 54) (J _ _ (vf (.sl (n3) (0) 8 (1) none))) (oR kr) (sg [14] (sx (nx (rt ?_))))
  exact⟨.inr rfl,_,kr,W,_,aa.fin (Ps:=[_,_,_,_,_]) (aa.tl s22),hm0,_,l,rfl,hl,bS.one f18 hrow (by rw[show fu s.st ip ik=_ by unfold fu;rw[hgo]];exact hrg),sid,tid,opf,lf,wf,Pw,Ps,Pt,Po,rfl,hw,hcw,hst,htk,hop⟩
theorem aB.fresh{X Y Z:Heap}{f:F}{l:List Nat}(h:aB X f l)(hf:eM Y f)(hz:∀id o,Y id=none→X id=some o→Z id=some o):aB Z f l:=by
 refine⟨?_,h.2⟩
 have h1:=h.1
 cases f<;>simp only[aF]at h1⊢<;>first
  |exact h1
  |(
   rename_i id off sz len cap
   cases hx:X id with
   |none=>rw[hx]at h1;simp at h1
   |some o=>rw[hz id o (hf _ _ _ _ _ rfl) hx];rw[hx]at h1;exact h1)
def jq:Rg→Bool
 |.sy ..=>false
 |.tb ..=>true
theorem aA.unmap{α β:Type}{R:α→List F→Prop}{S:β→List F→Prop}{sz:Nat}{g:α→β}(hg:∀a c,S (g a) c→R a c):∀{l:List α} {fs:List F},aA S sz (l.map g) fs→aA R sz l fs
 |[],_,h=>h
 |_::_,_,h=>by
  obtain⟨c,r,h1,h2,h3,h4⟩:=h
  exact⟨c,r,h1,h2,hg _ _ h3,aA.unmap hg h4⟩
theorem G5{X:Heap}{ip ik u B N M:Nat}{f:F}{l:List Rc}(h:ck X f (l.map (aY ip ik u B N M))):j3 ip ik u B N M X f l:=by
 rcases h with⟨rfl,h⟩|⟨id,off,cap,all,ex,rfl,h1,h2,h3⟩
 ·exact .inl ⟨rfl,by simpa using h⟩
 ·rw[List.length_map]at h2 h3
  exact .inr ⟨id,off,cap,all,ex,by rw[List.length_map],h1,h2,aA.unmap (R:=cA ip ik u B N M X) (g:=aY ip ik u B N M) (S:=aV X) (fun _ _ h=>h) h3⟩
/-- what decoding tells -/
def fY(X:Heap)(B N M:Nat)(rs:List Rc)(g:F)(e:Int):Prop:=(e=0∧∃ql,ql.length=blkS B N M∧gV rs B N M ql∧aB X g ((dX (ql.map (gY N))).take B))∨(e=4∧g=.sl0∧∃i,i<blkS B N M∧fO (lK (kS B N M i)) N (dL (kS B N M i) (drp rs i)) (dM (kS B N M i) (drp rs i)) (dD (kS B N M i) N (drp rs i)))
theorem fY.fresh{X Y Z:Heap}{B N M:Nat}{rs:List Rc}{g:F}{e:Int}(h:fY X B N M rs g e)(hf:eM Y g)(hz:∀id o,Y id=none→X id=some o→Z id=some o):fY Z B N M rs g e:=by
 rcases h with⟨h1,ql,h2,h3,h4⟩ | h
 ·exact .inl ⟨h1,ql,h2,h3,h4.fresh hf hz⟩
 ·exact .inr h
theorem fY.mono{X Y:Heap}{B N M:Nat}{rs:List Rc}{g:F}{e:Int}(hm:ab X Y)(h:fY X B N M rs g e):fY Y B N M rs g e:=by
 rcases h with⟨h1,ql,h2,h3,h4⟩ | h
 ·exact .inl ⟨h1,ql,h2,h3,h4.mono hm⟩
 ·exact .inr h
theorem fY.row{X:Heap}{B N M:Nat}{rs:List Rc}{g:F}{e:Int}(h:fY X B N M rs g e):∃d,aB X g d:=by
 rcases h with⟨h1,ql,h2,h3,h4⟩|⟨_,rfl,_⟩
 ·exact⟨_,h4⟩
 ·exact⟨[],rfl,fun _ h=>(by cases h),sm⟩
theorem eM.sl0{X:Heap}:eM X .sl0:=fun _ _ _ _ _ e=>by cases e
theorem GD{X:Heap}{n:Nat}{x0 x1 x2 x3 x4 x5 x6 x8 x9:F}(ht:ap X n):af 177 [.u (.agg [x0,x1,x2,x3,x4,x5,x6,.bool false,x8,x9])] X n fun v _=>v=vf (.bool true):=by
 refine af.of_to kr ?_
 have s0:aa X X n (cat [[]]):=aa.ini ht
 have hm0:ab X X:=ab.rfl
 refine ag ?_
 obtain⟨_,s,J⟩:=ay s0 (.cells [x0,x1,x2,x3,x4,x5,x6,.bool false,x8,x9] true)
 refine ov 1 (J _ _ (vf (.ptr (n) (0)))) (ae 1 (ai 1 (ov 4 (ld 7 (s.at 0 rfl) rfl) (ax 2 ?_))))
 exact⟨.inr rfl,_,kr,X,_,s,hm0,rfl⟩
theorem FS{X:Heap}{n:Nat}{x0 x1 x2 x3 x4 x5 x6 x8 x9:F}(ht:ap X n):af 157 [.u (.agg [x0,x1,x2,x3,x4,x5,x6,.bool false,x8,x9])] X n fun v _=>v=vf (.bool false):=by
 refine af.of_to kr ?_
 have s0:aa X X n (cat [[]]):=aa.ini ht
 have hm0:ab X X:=ab.rfl
 refine ag ?_
 obtain⟨_,s,J⟩:=ay s0 (.cells [x0,x1,x2,x3,x4,x5,x6,.bool false,x8,x9] true)
 refine ov 1 (J _ _ (vf (.ptr (n) (0)))) (ae 1 (ai 1 (ov 4 (ld 7 (s.at 0 rfl) rfl) (ax 1 ?_))))
 exact⟨.inr rfl,_,kr,X,_,s,hm0,rfl⟩
theorem Fw{X:Heap}{n:Nat}{x0 x1 x2 x3 x4 x5 x6 x8 x9:F}(ht:ap X n):af 157 [.u (.agg [x0,x1,x2,x3,x4,x5,x6,.bool true,x8,x9])] X n fun v _=>v=vf (.bool true):=by
 refine af.of_to kr ?_
 have s0:aa X X n (cat [[]]):=aa.ini ht
 have hm0:ab X X:=ab.rfl
 refine ag ?_
 obtain⟨_,s,J⟩:=ay s0 (.cells [x0,x1,x2,x3,x4,x5,x6,.bool true,x8,x9] true)
 refine ov 1 (J _ _ (vf (.ptr (n) (0)))) (ae 1 (ai 1 (ov 4 (ld 7 (s.at 0 rfl) rfl) (ax 1 ?_))))
 exact⟨.inr rfl,_,kr,X,_,s,hm0,rfl⟩
theorem vh{X:Heap}{n:Nat}{r:Rg}{c:List F}(h:aV X r c)(ht:ap X n):af 157 [.u (.agg c)] X n fun v _=>v=vf (.bool (jq r)):=by
 cases r with
 |sy a b c d e f g i j=>obtain⟨q,rfl,_⟩:=h;exact FS ht
 |tb a b c=>have h:_=_:=h;subst h;exact Fw ht
theorem D_{X:Heap}{n:Nat}{r:Rg}{c:List F}(h:aV X r c)(hr:jq r=false)(ht:ap X n):af 177 [.u (.agg c)] X n fun v _=>v=vf (.bool true):=by
 cases r with
 |sy a b c d e f g i j=>obtain⟨q,rfl,_⟩:=h;exact GD ht
 |tb a b c=>cases hr
theorem Br{X:Heap}{n:Nat}{ip ik u B N M:Nat}{f:F}(rs:List Rc)(h:b7 B N M)(hr:j3 ip ik u B N M X f rs)(hok:gZ B N M rs)(hlt:rs.length<4000)(ht:ap X n):af 126 [vf (f)] X n fun v X'=>∃g ok sh,v=.tup [.f g,.agg sh,.f (.bool ok)]∧sh.length=3∧eM X g∧((rs=[]∧ok=false∧g=.sl0)∨(rs≠[]∧∃e,fY X' B N M rs g e∧ok=decide (e=0))):=by
 refine af.of_to kr ?_
 have s0:aa X X n (cat [[]]):=aa.ini ht
 have hm0:ab X X:=ab.rfl
 rcases Nat.eq_zero_or_pos rs.length with h0 | h0
 ·refine ai 1 ?_
  obtain⟨_,s,J⟩:=ay s0 (.cells [.int .i64 0,.int .i64 0,.int .i64 0] true)
  refine ov 3 (J _ _ (vf (.ptr (n) (0)))) (ae 1 (ai 1 ?_))
  obtain⟨_,W,_,_,m1,s1,J,rfl⟩:=(((mB (g:=177) (caps:=[]) (fun _=>true) (sY hr) (by rw[List.length_map];omega) kr (fun i a ha c Y m hR hm ht=>by
   have:=(List.getElem?_eq_some_iff.1 ha).1
   rw[List.length_map]at this;omega) s.topX).imp (Post':=fun v _=>v=vf (.int .i64 (-1))) fun v _ h=>by
    rcases h with⟨i,hi,_⟩|⟨_,h⟩
    ·rw[List.length_map]at hi;omega
    ·exact h)).on s
  have hm0:=hm0.tr m1
  refine ov 9 (J _ _) (ae 1 (aP 1 (ov 11 (au (eK .i64 (x:=(-1:Int)) (y:=(0:Int)) om)) (aj (iT (ai 2 ?_))))))
  obtain⟨_,s2,J⟩:=aI (off:=0) (new:=[.int .i64 0,.int .i64 0,.int .i64 0]) (cs':=[.int .i64 0,.int .i64 0,.int .i64 0]) s1 0 rfl sm rfl
  refine oe (J _ _) (ax 1 ?_)
  exact⟨.inr rfl,_,cS (s2.at 0 rfl) kr kr,W,_,s2,hm0,.sl0,false,[.int .i64 0,.int .i64 0,.int .i64 0],rfl,rfl,eM.sl0,.inl ⟨List.eq_nil_of_length_eq_zero h0,rfl,rfl⟩⟩
 ·refine ai 1 ?_
  obtain⟨_,s3,J⟩:=ay s0 (.cells [.int .i64 0,.int .i64 0,.int .i64 0] true)
  refine ov 3 (J _ _ (vf (.ptr (n) (0)))) (ae 1 (ai 1 ?_))
  obtain⟨_,_,_,_,m2,s4,J,rfl⟩:=(((mB (g:=177) (caps:=[]) (fun _=>true) (sY hr) (by rw[List.length_map];omega) kr (fun i a ha c Y m hR hm ht=>by
   obtain⟨q,_,rfl⟩:=List.mem_map.1 (List.mem_of_getElem? ha)
   exact D_ hR rfl ht) s3.topX).imp (Post':=fun v _=>v=vi 0) fun v _ h=>by
    rcases h with⟨i,hi,_,h2,h⟩|⟨h1,h⟩
    ·rcases Nat.eq_zero_or_pos i with h3 | h3
     ·rw[h,h3]
     ·cases h2 0 h3
    ·cases h1 0 (by rw[List.length_map];exact h0))).on s3
  have hm0:=hm0.tr m2
  have hr:=hr.mono cA.mono m2
  refine ov 9 (J _ _) ?_
  have hrX:=hr
  obtain⟨r,hx⟩:∃r,rs[0]?=some r:=⟨_,List.getElem?_eq_getElem om⟩
  obtain⟨id,off,cap,all,exb,c,hfe,h2,h3,h4,hR⟩:=hr.at hx
  obtain⟨gd,rfl,_⟩:=hR
  have hsl:∀k,off+0*10=k→(all.drop (k+2)).take 3=[iN B,iN N,iN M]:=fun k hk=>by
   have:=congrArg (fun l=>(l.drop 2).take 3) h4
   rw[hk]at this
   simpa[List.drop_take,List.take_take,List.drop_drop]using this
  refine ae 1 (aP 1 (ov 11 (lF 0 0) (aj (ar (nx (ag ?_))))))
  subst hfe
  refine go 2 (ov 16 (ix id off 10 rs.length 0) (go 1 (ov 18 (aG (id:=id) (off:=off+0*10+2) (sz:=3) (c:=[iN B,iN N,iN M]) (s4.mono _ _ h2) om (hsl _ rfl)) ?_)))
  have hm9:=hm0
  refine go 1 ?_
  obtain⟨_,W,_,_,m3,s5,J,⟨g,e,rfl,hd⟩⟩:=(Be rs h hr hok hlt s4.topX).on s4
  have hm0:=hm0.tr m3
  have h2:=m3 _ _ h2
  refine ov 20 (J _ _) ?_
  have hfg:eM X g:=hd.elim (fun q=>by obtain⟨_,ql,_,_,_,_,q⟩:=q;exact q.mono hm9) (fun q=>by rw[q.2.1];exact eM.sl0)
  have hdq:fY W B N M rs g e:=hd.elim (fun q=>by obtain⟨q1,ql,q2,q3,q4,_,_⟩:=q;exact .inl ⟨q1,ql,q2,q3,q4⟩) .inr
  refine ae 5 (sq (dw [0,1,2,3,4,5,8,9,6,7,10] (sg [0,1,2] (ss (some 26) (bD (id:=id) (off:=off) (sz:=10) (len:=rs.length) (k:=0) om) (sg [4] (sr (some 28) (id) trivial (aG (id:=id) (off:=off+0*10+2) (sz:=3) (c:=[iN B,iN N,iN M]) (s5.mono _ _ h2) om (hsl _ rfl)) (sg [8] ?_)))))))
  by_cases he:e=0
  ·obtain⟨_,s6,J⟩:=aI (off:=0) (new:=[iN B,iN N,iN M]) (cs':=[iN B,iN N,iN M]) s5 0 rfl sm rfl
   refine sf none (J _ _) (oR kr) (sg [6] (ss (some 30) (au (gR .i64 (x:=(e)) (y:=(0:Int)) om)) (sg [10] (sx (nx (rt ?_))))))
   exact⟨.inr rfl,_,cS (s6.at 0 rfl) kr kr,W,_,s6,hm0,g,true,[iN B,iN N,iN M],rfl,rfl,hfg,.inr ⟨fun q=>by rw[q]at h0;exact absurd h0 sm,e,hdq,by rw[decide_eq_true he]⟩⟩
  ·obtain⟨_,s7,J⟩:=aI (off:=0) (new:=[iN B,iN N,iN M]) (cs':=[iN B,iN N,iN M]) s5 0 rfl sm rfl
   refine sf none (J _ _) (oR kr) (sg [6] (ss (some 30) (au (jc .i64 (x:=(e)) (y:=(0:Int)) om)) (sg [10] (sx (nx (rt ?_))))))
   exact⟨.inr rfl,_,cS (s7.at 0 rfl) kr kr,W,_,s7,hm0,g,false,[iN B,iN N,iN M],rfl,rfl,hfg,.inr ⟨fun q=>by rw[q]at h0;exact absurd h0 sm,e,hdq,by rw[decide_eq_false he]⟩⟩
end Go.Proofs.YtkimkgbppegkhaaGreat.Cm
