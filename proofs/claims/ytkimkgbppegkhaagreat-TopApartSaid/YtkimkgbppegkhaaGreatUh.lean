/- The clean machine's walks of the swarm (6): one asked, anything done. · The clean machine's walks of the swarm (7): a swarm made, whom its peers know; calm, and who is asked. · The clean machine's walks of the swarm (8): whom one knows; calm; one asked until the answer comes. -/
import Derived.Test.YtkimkgbppegkhaaGreatUe
set_option linter.unusedVariables false
set_option linter.unusedSimpArgs false
namespace Go.Proofs.YtkimkgbppegkhaaGreat.Cm
open Go Go.RowKit Go.Proofs.YtkimkgbppegkhaaGreat.Gf
set_option maxRecDepth 1000000
theorem Bf{X:Heap}{n:Nat}{sw:Nat}{ps:List aq}{fl:List Lt}{now:Nat}{P0:List (Nat×O)}(hsw:bv X sw ps fl now P0)  {pe:Nat}{s:aq}(hi:ps[pe]?=some s){ip ik:Nat}{B N M:Nat}{fd:F}{data:List Nat}(h:b7 B N M)(hfd:aB X fd data)(hB:data.length=B)(hcp:eO fd)(hb8:B8 data)(hnow:now≤1000)(hn:s.n≤1000)(hS:s.kn.length≤3)(hla:s.last≤1000)(hgu:bK s.st.gone s.n (s.last+1)=none)(hdis:∀x∈s.st.sy,bu x≠(s.n,s.last+1))(hsy:s.st.sy.length≤300)(hlg:s.st.lg≤400000000)(hkb:∀k∈s.kn,k≤1000)(hlen:fl.length+4≤500):al 37 [vf (.ptr (sw) (0)),.u (.agg [.int .i64 1,iN pe,iN N,iN M,iN ip,iN ik,fd])] X n (P0) fun v X' P'=>∃f e ls s2,v=.tup [.f f,.f (.int .i64 e)]∧lY now pe B N M data s X' f e ls s2∧bv X' sw (ps.set pe s2) (fl++ls) now P':=by
 obtain⟨lf,lfs,ff,fs,Pl,Pf,Pps,rfl,hl,hps,hf,hfl⟩:=hsw
 refine al.of_to (Ps:=[[(sw,.cells [lf,ff,iN now] true)],Pl,Pf,cat Pps]) kr fun R H0 s0=>?_
 have hm0:ab X X:=ab.rfl
 refine ag ?_
 obtain⟨_,G,J⟩:=ay s0 (.cells [.int .i64 1,iN pe,iN N,iN M,iN ip,iN ik,fd] true)
 refine ov 3 (J _ _ (vf (.ptr (n) (0)))) (ae 2 (ai 2 (ov 9 (ld 1 (G.at 0 rfl) rfl) ?_)))
 obtain⟨qid,pid,Pp,Aq,Bq,hx,rfl,hpe,hback⟩:=hps.at hi
 have hmb:ab X X:=ab.rfl
 have G:=aa.spl [_,_,_] [_] G
 have G:=aa.unp [_,_,_] [_,_] [_,_] G
 have G:=aa.inn [_,_] [_,_,_] G
 have G:=aa.outAt [_,_] [] G
 have G:=aa.pck [_] [_,_,_,_] [_,_] G
 obtain⟨_,_,_,_,Q7,m,G,J,⟨rfl,rfl⟩⟩:=(jE (sw:=sw) (now:=now) (ff:=ff) (i:=pe) hl hx).on [_] [_,_,_,_] G
 have hfl:=hfl.mono fun _ _ q=>bM.mono _ _ _ _ m q
 have hfd:=hfd.mono m
 have hpe:=hpe.mono m
 refine ov 10 (J _ _) ?_
 have G:=aa.unp [_] [_,_,_,_] [_,_] G
 have G:=aa.inn [] [_,_,_,_,_] G
 refine ae 1 (aD 0 (ah 3 (iF (ai 1 (ov 16 (ld 0 (G.at 2 rfl) rfl) (ov 17 (eF 1 6) (ae 1 (iF (ai 3 (ov 30 (ld 1 (G.at 1 rfl) rfl) (ae 1 (ar (nx (ai 2 (ov 33 (la 0 7 [.int .i64 1,iN pe,iN N,iN M,iN ip,iN ik,fd] (G.at 2 rfl)) ?_)))))))))))))))
 have G:=aa.outAt [_] [_] G
 have G:=aa.outAt [] [_] G
 have G:=aa.pck [_] [_,_] [_,_,_,_,_] G
 obtain⟨_,W,H,n1,Q5,m1,G,J,⟨f,e,ls,s2,rfl,hpr,ff2,fs2,Pf2,Pp2,rfl,hf2,hfl2,hpe2⟩⟩:=(Bm (P0:=cat [[(sw,.cells [lf,ff,iN now] true)],[(qid,.cells [.ptr (pid) (0),.bool false] true)],Pl,Pf,Pp]) ⟨ff,fs,Pf,Pp,rfl,hf,hfl,hpe⟩ (pe:=pe) (ip:=ip) (ik:=ik) (B:=B) (N:=N) (M:=M) (fd:=fd) h hfd hB hcp hb8 hnow hn hS hla hgu hdis hsy hlg hkb hlen).on [_] [_,_] G
 have hm0:=hm0.tr (m.tr m1)
 have hmb:=hmb.tr (m.tr m1)
 refine ov 34 (J _ _) ?_
 have G:aa W H (n1) (cat [[(n,.cells [.int .i64 1,iN pe,iN N,iN M,iN ip,iN ik,fd] true)],cat [[(sw,.cells [lf,ff2,iN now] true)],[(qid,.cells [.ptr (pid) (0),.bool false] true)],Pl,Pf2,Pp2],cat (Aq++Bq),R]):=G
 have G:=aa.unp [_] [_,_] [_,_,_,_,_] G
 have G:=aa.inn [_] [_,_,_,_,_] G
 have G:=aa.inn [] [_,_,_,_,_] G
 refine ax 4 ?_
 have G:=aa.outAt [_] [_] G
 have G:=aa.swap [_] [_,_,_,_] G
 have G:=aa.swap [_,_] [_,_,_] G
 have G:=aa.pck [_,_,_] [_,_] [_,_] G
 have G:=aa.unspl [_,_,_] [_] G
 have G:=aa.outAt [_] [] G
 have G:=aa.rid [_] [_,_,_,_] G
 exact⟨.inr rfl,_,kr,W,_,aa.fin (Ps:=[_,_,_,_]) G,hm0,f,e,ls,s2,rfl,hpr,lf,lfs,ff2,fs2,Pl,Pf2,_,rfl,hl,hback _ hmb _ Pp2 hpe2,hf2,hfl2⟩
theorem Ci{X:Heap}{n:Nat}{sw:Nat}{ps:List aq}{fl:List Lt}{now:Nat}{P0:List (Nat×O)}(hsw:bv X sw ps fl now P0){pe:Nat}{s:aq}(hi:ps[pe]?=some s){ip ik:Nat}{B N M:Nat}{fd:F}{data:List Nat}(h:b7 B N M)(hfd:aB X fd data)(hB:data.length=B)(hcp:eO fd)(hb8:B8 data)(hnow:now≤1000)(hn:s.n≤1000)(hS:s.kn.length≤3)(hla:s.last≤1000)(hgu:bK s.st.gone s.n (s.last+1)=none)(hdis:∀x∈s.st.sy,bu x≠(s.n,s.last+1))(hsy:s.st.sy.length≤300)(hlg:s.st.lg≤400000000)(hkb:∀k∈s.kn,k≤1000)(hlen:fl.length+4≤500):al 22 [vf (.ptr (sw) (0)),.u (.agg [.int .i64 1,iN pe,iN N,iN M,iN ip,iN ik,fd])] X n (P0) fun v X' P'=>∃f e ls s2,v=.tup [.f f,.f (.int .i64 e)]∧lY now pe B N M data s X' f e ls s2∧bv X' sw (ps.set pe s2) (fl++ls) now P':=by
 refine al.of_to1 kr fun R H0 s0=>?_
 have hm0:ab X X:=ab.rfl
 refine ag ?_
 obtain⟨_,G,J⟩:=ay s0 (.cells [.int .i64 1,iN pe,iN N,iN M,iN ip,iN ik,fd] true)
 refine ov 3 (J _ _ (vf (.ptr (n) (0)))) (ae 2 (sq (ah 2 (ar (nx (aP 1 (ov 9 (ld 0 (G.at 0 rfl) rfl) (aj (bk 0 (sq (ag (ov 11 (eT 1 1) (ae 1 (aM (nx (iT (ai 1 (ov 18 (la 0 7 [.int .i64 1,iN pe,iN N,iN M,iN ip,iN ik,fd] (G.at 0 rfl)) ?_))))))))))))))))))
 obtain⟨_,W,_,_,P9,m,G,J,⟨f,e,ls,s2,rfl,hpr,hsw⟩⟩:=(Bf (pe:=pe) (ip:=ip) (ik:=ik) (B:=B) (N:=N) (M:=M) (fd:=fd) hsw hi h hfd hB hcp hb8 hnow hn hS hla hgu hdis hsy hlg hkb hlen).on [_] [_] G
 have hm0:=hm0.tr m
 refine ov 19 (J _ _) (ax 4 ?_)
 exact⟨.inr rfl,_,kr,W,_,aa.fin1 G,hm0,f,e,ls,s2,rfl,hpr,hsw⟩
theorem BH{X:Heap}{n:Nat}{sw:Nat}{ps:List aq}{fl:List Lt}{now:Nat}{P0:List (Nat×O)}(hsw:bv X sw ps fl now P0)  {pe:Nat}{s:aq}(hi:ps[pe]?=some s){en em ip ik:Nat}{ed:F}(hop0:s.op=none)(hnow:now≤1000)(hws:s.ws.length≤1000)(hwl:s.wl<1000000)(hS:s.kn.length≤12)(htg:s.tag≤1000000)(hsy:∀r∈s.st.sy,c5 r)(hlt:s.st.sy.length≤1000)(hro:eA ⟨s.tag+1,ip,ik,s.st.sy.filter (aW ip ik),[],[],[]⟩)(hsend:∀ls s2,gU now s ip ik ls s2→∀l∈ls,cT l)(hlen:fl.length+1≤500):al 37 [vf (.ptr (sw) (0)),.u (.agg [.int .i64 2,iN pe,iN en,iN em,iN ip,iN ik,ed])] X n (P0) fun v X' P'=>v=.tup [.f .sl0,.f (.int .i64 0)]∧∃ls s2,gU now s ip ik ls s2∧ls.length≤1∧bv X' sw (ps.set pe s2) (fl++ls) now P':=by
 obtain⟨lf,lfs,ff,fs,Pl,Pf,Pps,rfl,hl,hps,hf,hfl⟩:=hsw
 refine al.of_to (Ps:=[[(sw,.cells [lf,ff,iN now] true)],Pl,Pf,cat Pps]) kr fun R H0 s0=>?_
 have hm0:ab X X:=ab.rfl
 refine ag ?_
 obtain⟨_,G,J⟩:=ay s0 (.cells [.int .i64 2,iN pe,iN en,iN em,iN ip,iN ik,ed] true)
 refine ov 3 (J _ _ (vf (.ptr (n) (0)))) (ae 2 (ai 2 (ov 9 (ld 1 (G.at 0 rfl) rfl) ?_)))
 obtain⟨qid,pid,Pp,Aq,Bq,hx,rfl,hpe,hback⟩:=hps.at hi
 have hmb:ab X X:=ab.rfl
 have G:=aa.spl [_,_,_] [_] G
 have G:=aa.unp [_,_,_] [_,_] [_,_] G
 have G:=aa.inn [_,_] [_,_,_] G
 have G:=aa.outAt [_,_] [] G
 have G:=aa.pck [_] [_,_,_,_] [_,_] G
 obtain⟨_,_,_,_,Q7,m,G,J,⟨rfl,rfl⟩⟩:=(jE (sw:=sw) (now:=now) (ff:=ff) (i:=pe) hl hx).on [_] [_,_,_,_] G
 have hfl:=hfl.mono fun _ _ q=>bM.mono _ _ _ _ m q
 have hpe:=hpe.mono m
 refine ov 10 (J _ _) ?_
 have G:=aa.unp [_] [_,_,_,_] [_,_] G
 have G:=aa.inn [] [_,_,_,_,_] G
 refine ae 1 (aD 0 (ah 3 (iF (ai 1 (ov 16 (ld 0 (G.at 2 rfl) rfl) (ov 17 (eF 2 6) (ae 1 (iF (ai 3 (ov 30 (ld 1 (G.at 1 rfl) rfl) (ae 1 (ar (nx (ai 2 (ov 33 (la 0 7 [.int .i64 2,iN pe,iN en,iN em,iN ip,iN ik,ed] (G.at 2 rfl)) ?_)))))))))))))))
 have G:=aa.outAt [_] [_] G
 have G:=aa.outAt [] [_] G
 have G:=aa.pck [_] [_,_] [_,_,_,_,_] G
 obtain⟨_,W,H,n1,Q5,m1,G,J,⟨rfl,ls,s2,hfs,hl1,ff2,fs2,Pf2,Pp2,rfl,hf2,hfl2,hpe2⟩⟩:=(Bp (P0:=cat [[(sw,.cells [lf,ff,iN now] true)],[(qid,.cells [.ptr (pid) (0),.bool false] true)],Pl,Pf,Pp]) ⟨ff,fs,Pf,Pp,rfl,hf,hfl,hpe⟩ (pe:=pe) (en:=en) (em:=em) (ip:=ip) (ik:=ik) (ed:=ed) hop0 hnow hws hwl hS htg hsy hlt hro hsend hlen).on [_] [_,_] G
 have hm0:=hm0.tr (m.tr m1)
 have hmb:=hmb.tr (m.tr m1)
 refine ov 34 (J _ _) ?_
 have G:aa W H (n1) (cat [[(n,.cells [.int .i64 2,iN pe,iN en,iN em,iN ip,iN ik,ed] true)],cat [[(sw,.cells [lf,ff2,iN now] true)],[(qid,.cells [.ptr (pid) (0),.bool false] true)],Pl,Pf2,Pp2],cat (Aq++Bq),R]):=G
 have G:=aa.unp [_] [_,_] [_,_,_,_,_] G
 have G:=aa.inn [_] [_,_,_,_,_] G
 have G:=aa.inn [] [_,_,_,_,_] G
 refine ax 4 ?_
 have G:=aa.outAt [_] [_] G
 have G:=aa.swap [_] [_,_,_,_] G
 have G:=aa.swap [_,_] [_,_,_] G
 have G:=aa.pck [_,_,_] [_,_] [_,_] G
 have G:=aa.unspl [_,_,_] [_] G
 have G:=aa.outAt [_] [] G
 have G:=aa.rid [_] [_,_,_,_] G
 exact⟨.inr rfl,_,kr,W,_,aa.fin (Ps:=[_,_,_,_]) G,hm0,rfl,ls,s2,hfs,hl1,lf,lfs,ff2,fs2,Pl,Pf2,_,rfl,hl,hback _ hmb _ Pp2 hpe2,hf2,hfl2⟩
theorem B9{X:Heap}{n:Nat}{sw:Nat}{ps:List aq}{fl:List Lt}{now:Nat}{P0:List (Nat×O)}(hsw:bv X sw ps fl now P0){pe:Nat}{s:aq}(hi:ps[pe]?=some s){en em ip ik:Nat}{ed:F}(hop0:s.op=none)(hnow:now≤1000)(hws:s.ws.length≤1000)(hwl:s.wl<1000000)(hS:s.kn.length≤12)(htg:s.tag≤1000000)(hsy:∀r∈s.st.sy,c5 r)(hlt:s.st.sy.length≤1000)(hro:eA ⟨s.tag+1,ip,ik,s.st.sy.filter (aW ip ik),[],[],[]⟩)(hsend:∀ls s2,gU now s ip ik ls s2→∀l∈ls,cT l)(hlen:fl.length+1≤500):al 22 [vf (.ptr (sw) (0)),.u (.agg [.int .i64 2,iN pe,iN en,iN em,iN ip,iN ik,ed])] X n (P0) fun v X' P'=>v=.tup [.f .sl0,.f (.int .i64 0)]∧∃ls s2,gU now s ip ik ls s2∧ls.length≤1∧bv X' sw (ps.set pe s2) (fl++ls) now P':=by
 refine al.of_to1 kr fun R H0 s0=>?_
 have hm0:ab X X:=ab.rfl
 refine ag ?_
 obtain⟨_,G,J⟩:=ay s0 (.cells [.int .i64 2,iN pe,iN en,iN em,iN ip,iN ik,ed] true)
 refine ov 3 (J _ _ (vf (.ptr (n) (0)))) (ae 2 (sq (ah 2 (ar (nx (aP 1 (ov 9 (ld 0 (G.at 0 rfl) rfl) (aj (bk 0 (sq (ag (ov 11 (eF 2 1) (ae 1 (iF (ag (ov 12 (eT 2 2) (ae 1 (aM (nx (iT (ai 1 (ov 18 (la 0 7 [.int .i64 2,iN pe,iN en,iN em,iN ip,iN ik,ed] (G.at 0 rfl)) ?_))))))))))))))))))))))
 obtain⟨_,W,_,_,P9,m,G,J,⟨rfl,ls,s2,hfs,hl1,hsw⟩⟩:=(BH (pe:=pe) (en:=en) (em:=em) (ip:=ip) (ik:=ik) (ed:=ed) hsw hi hop0 hnow hws hwl hS htg hsy hlt hro hsend hlen).on [_] [_] G
 have hm0:=hm0.tr m
 refine ov 19 (J _ _) (ax 4 ?_)
 exact⟨.inr rfl,_,kr,W,_,aa.fin1 G,hm0,rfl,ls,s2,hfs,hl1,hsw⟩
theorem A6{X:Heap}{n:Nat}{sw:Nat}{ps:List aq}{fl:List Lt}{now:Nat}{P0:List (Nat×O)}(hsw:bv X sw ps fl now P0)  {pe:Nat}{s:aq}(hi:ps[pe]?=some s){en em ip ik:Nat}{ed:F}(hnow:now≤1000)(h1:ip≤1000)(h2:1≤ik)(h3:ik≤2000)(hn:s.n≤1000)(hkb:∀k∈s.kn,k≤1000)(hnk:s.n∉s.kn)(hS:s.kn.length≤3)(hgu:bK s.st.gone ip ik=none)(hsy:s.st.sy.length<500)(hlg:s.st.lg≤400000000)(hlen:fl.length+4≤500):al 37 [vf (.ptr (sw) (0)),.u (.agg [.int .i64 3,iN pe,iN en,iN em,iN ip,iN ik,ed])] X n (P0) fun v X' P'=>∃f,∃l:List Nat,∃st2,v=.tup [.f f,.f (.int .i64 0)]∧c9 X' f [⟨pe,0,0,ip,ik,[]⟩]∧l.Perm (s.kn++[s.n])∧ce s.st [.tb ip ik (now+9000)] st2∧st2.lg≤s.st.lg+1000∧bv X' sw (ps.set pe {s with st:=st2}) (fl++outL s.n l (l.map fun _=>[Rg.tb ip ik (now+9000)])) now P':=by
 obtain⟨lf,lfs,ff,fs,Pl,Pf,Pps,rfl,hl,hps,hf,hfl⟩:=hsw
 refine al.of_to (Ps:=[[(sw,.cells [lf,ff,iN now] true)],Pl,Pf,cat Pps]) kr fun R H0 s0=>?_
 have hm0:ab X X:=ab.rfl
 refine ag ?_
 obtain⟨_,G,J⟩:=ay s0 (.cells [.int .i64 3,iN pe,iN en,iN em,iN ip,iN ik,ed] true)
 refine ov 3 (J _ _ (vf (.ptr (n) (0)))) (ae 2 (ai 2 (ov 9 (ld 1 (G.at 0 rfl) rfl) ?_)))
 obtain⟨qid,pid,Pp,Aq,Bq,hx,rfl,hpe,hback⟩:=hps.at hi
 have hmb:ab X X:=ab.rfl
 have G:=aa.spl [_,_,_] [_] G
 have G:=aa.unp [_,_,_] [_,_] [_,_] G
 have G:=aa.inn [_,_] [_,_,_] G
 have G:=aa.outAt [_,_] [] G
 have G:=aa.pck [_] [_,_,_,_] [_,_] G
 obtain⟨_,_,_,_,Q7,m,G,J,⟨rfl,rfl⟩⟩:=(jE (sw:=sw) (now:=now) (ff:=ff) (i:=pe) hl hx).on [_] [_,_,_,_] G
 have hfl:=hfl.mono fun _ _ q=>bM.mono _ _ _ _ m q
 have hpe:=hpe.mono m
 refine ov 10 (J _ _) ?_
 have G:=aa.unp [_] [_,_,_,_] [_,_] G
 have G:=aa.inn [] [_,_,_,_,_] G
 refine ae 1 (aD 0 (ah 3 (iF (ai 1 (ov 16 (ld 0 (G.at 2 rfl) rfl) (ov 17 (eF 3 6) (ae 1 (iF (ai 3 (ov 30 (ld 1 (G.at 1 rfl) rfl) (ae 1 (ar (nx (ai 2 (ov 33 (la 0 7 [.int .i64 3,iN pe,iN en,iN em,iN ip,iN ik,ed] (G.at 2 rfl)) ?_)))))))))))))))
 have G:=aa.outAt [_] [_] G
 have G:=aa.outAt [] [_] G
 have G:=aa.pck [_] [_,_] [_,_,_,_,_] G
 obtain⟨_,W,H,n1,Q5,m1,G,J,⟨f,l,st2,rfl,han,hlp,hpu,hle,ff2,fs2,Pf2,Pp2,rfl,hf2,hfl2,hpe2⟩⟩:=(Bz (P0:=cat [[(sw,.cells [lf,ff,iN now] true)],[(qid,.cells [.ptr (pid) (0),.bool false] true)],Pl,Pf,Pp]) ⟨ff,fs,Pf,Pp,rfl,hf,hfl,hpe⟩ (pe:=pe) (en:=en) (em:=em) (ip:=ip) (ik:=ik) (ed:=ed) hnow h1 h2 h3 hn hkb hnk hS hgu hsy hlg hlen).on [_] [_,_] G
 have hm0:=hm0.tr (m.tr m1)
 have hmb:=hmb.tr (m.tr m1)
 refine ov 34 (J _ _) ?_
 have G:aa W H (n1) (cat [[(n,.cells [.int .i64 3,iN pe,iN en,iN em,iN ip,iN ik,ed] true)],cat [[(sw,.cells [lf,ff2,iN now] true)],[(qid,.cells [.ptr (pid) (0),.bool false] true)],Pl,Pf2,Pp2],cat (Aq++Bq),R]):=G
 have G:=aa.unp [_] [_,_] [_,_,_,_,_] G
 have G:=aa.inn [_] [_,_,_,_,_] G
 have G:=aa.inn [] [_,_,_,_,_] G
 refine ax 4 ?_
 have G:=aa.outAt [_] [_] G
 have G:=aa.swap [_] [_,_,_,_] G
 have G:=aa.swap [_,_] [_,_,_] G
 have G:=aa.pck [_,_,_] [_,_] [_,_] G
 have G:=aa.unspl [_,_,_] [_] G
 have G:=aa.outAt [_] [] G
 have G:=aa.rid [_] [_,_,_,_] G
 exact⟨.inr rfl,_,kr,W,_,aa.fin (Ps:=[_,_,_,_]) G,hm0,f,l,st2,rfl,han,hlp,hpu,hle,lf,lfs,ff2,fs2,Pl,Pf2,_,rfl,hl,hback _ hmb _ Pp2 hpe2,hf2,hfl2⟩
theorem B0{X:Heap}{n:Nat}{sw:Nat}{ps:List aq}{fl:List Lt}{now:Nat}{P0:List (Nat×O)}(hsw:bv X sw ps fl now P0){pe:Nat}{s:aq}(hi:ps[pe]?=some s){en em ip ik:Nat}{ed:F}(hnow:now≤1000)(h1:ip≤1000)(h2:1≤ik)(h3:ik≤2000)(hn:s.n≤1000)(hkb:∀k∈s.kn,k≤1000)(hnk:s.n∉s.kn)(hS:s.kn.length≤3)(hgu:bK s.st.gone ip ik=none)(hsy:s.st.sy.length<500)(hlg:s.st.lg≤400000000)(hlen:fl.length+4≤500):al 22 [vf (.ptr (sw) (0)),.u (.agg [.int .i64 3,iN pe,iN en,iN em,iN ip,iN ik,ed])] X n (P0) fun v X' P'=>∃f,∃l:List Nat,∃st2,v=.tup [.f f,.f (.int .i64 0)]∧c9 X' f [⟨pe,0,0,ip,ik,[]⟩]∧l.Perm (s.kn++[s.n])∧ce s.st [.tb ip ik (now+9000)] st2∧st2.lg≤s.st.lg+1000∧bv X' sw (ps.set pe {s with st:=st2}) (fl++outL s.n l (l.map fun _=>[Rg.tb ip ik (now+9000)])) now P':=by
 refine al.of_to1 kr fun R H0 s0=>?_
 have hm0:ab X X:=ab.rfl
 refine ag ?_
 obtain⟨_,G,J⟩:=ay s0 (.cells [.int .i64 3,iN pe,iN en,iN em,iN ip,iN ik,ed] true)
 refine ov 3 (J _ _ (vf (.ptr (n) (0)))) (ae 2 (sq (ah 2 (ar (nx (aP 1 (ov 9 (ld 0 (G.at 0 rfl) rfl) (aj (bk 0 (sq (ag (ov 11 (eF 3 1) (ae 1 (iF (ag (ov 12 (eF 3 2) (ae 1 (iF (ag (ov 13 (eT 3 3) (ae 1 (aM (nx (iT (ai 1 (ov 18 (la 0 7 [.int .i64 3,iN pe,iN en,iN em,iN ip,iN ik,ed] (G.at 0 rfl)) ?_))))))))))))))))))))))))))
 obtain⟨_,W,_,_,P9,m,G,J,⟨f,l,st2,rfl,han,hlp,hpu,hle,hsw⟩⟩:=(A6 (pe:=pe) (en:=en) (em:=em) (ip:=ip) (ik:=ik) (ed:=ed) hsw hi hnow h1 h2 h3 hn hkb hnk hS hgu hsy hlg hlen).on [_] [_] G
 have hm0:=hm0.tr m
 refine ov 19 (J _ _) (ax 4 ?_)
 exact⟨.inr rfl,_,kr,W,_,aa.fin1 G,hm0,f,l,st2,rfl,han,hlp,hpu,hle,hsw⟩
theorem AT{X:Heap}{n:Nat}{sw:Nat}{ps:List aq}{fl:List Lt}{now:Nat}{P0:List (Nat×O)}(hsw:bv X sw ps fl now P0)  {pe:Nat}{s:aq}(hi:ps[pe]?=some s){en em ip ik:Nat}{ed:F}{s3:aq}(hj:ps[en]?=some s3)(hn:s.n≤1000)(hen:en≤1000)(hS:s.kn.length<1000)(hlt:en≠s.n→en∉s.kn→s.kn.length<3)(hlen:fl.length+1≤500):al 37 [vf (.ptr (sw) (0)),.u (.agg [.int .i64 4,iN pe,iN en,iN em,iN ip,iN ik,ed])] X n (P0) fun v X' P'=>v=.tup [.f .sl0,.f (.int .i64 0)]∧bv X' sw (ps.set pe {s with kn:=if en=s.n then s.kn else bp s.n s.kn en}) (fl++if en=s.n then[]else[⟨1,s.n,en,0,0,0,[],[]⟩]) now P':=by
 obtain⟨lf,lfs,ff,fs,Pl,Pf,Pps,rfl,hl,hps,hf,hfl⟩:=hsw
 refine al.of_to (Ps:=[[(sw,.cells [lf,ff,iN now] true)],Pl,Pf,cat Pps]) kr fun R H0 s0=>?_
 have hm0:ab X X:=ab.rfl
 obtain⟨q2,_,_,_,_,hxj,_⟩:=hps.at hj
 refine ag ?_
 obtain⟨_,G,J⟩:=ay s0 (.cells [.int .i64 4,iN pe,iN en,iN em,iN ip,iN ik,ed] true)
 refine ov 3 (J _ _ (vf (.ptr (n) (0)))) (ae 2 (ai 2 (ov 9 (ld 1 (G.at 0 rfl) rfl) ?_)))
 obtain⟨qid,pid,Pp,Aq,Bq,hx,rfl,hpe,hback⟩:=hps.at hi
 have hmb:ab X X:=ab.rfl
 have G:=aa.spl [_,_,_] [_] G
 have G:=aa.unp [_,_,_] [_,_] [_,_] G
 have G:=aa.inn [_,_] [_,_,_] G
 have G:=aa.outAt [_,_] [] G
 have G:=aa.pck [_] [_,_,_,_] [_,_] G
 obtain⟨_,_,_,_,Q7,m,G,J,⟨rfl,rfl⟩⟩:=(jE (sw:=sw) (now:=now) (ff:=ff) (i:=pe) hl hx).on [_] [_,_,_,_] G
 have hfl:=hfl.mono fun _ _ q=>bM.mono _ _ _ _ m q
 have hpe:=hpe.mono m
 refine ov 10 (J _ _) ?_
 have G:=aa.unp [_] [_,_,_,_] [_,_] G
 have G:=aa.inn [] [_,_,_,_,_] G
 refine ae 1 (aD 0 (ah 3 (iF (ai 1 (ov 16 (ld 0 (G.at 2 rfl) rfl) (ov 17 (eF 4 6) (ae 1 (iF (ai 3 (ov 30 (ld 1 (G.at 1 rfl) rfl) (ae 1 (ar (nx (ai 2 (ov 33 (la 0 7 [.int .i64 4,iN pe,iN en,iN em,iN ip,iN ik,ed] (G.at 2 rfl)) ?_)))))))))))))))
 have G:=aa.outAt [_] [_] G
 have G:=aa.outAt [] [_] G
 have G:=aa.pck [_] [_,_] [_,_,_,_,_] G
 obtain⟨_,W,H,n1,Q5,m1,G,J,⟨rfl,ff2,fs2,Pf2,Pp2,rfl,hf2,hfl2,hpe2⟩⟩:=(AI (P0:=cat [[(sw,.cells [lf,ff,iN now] true)],[(qid,.cells [.ptr (pid) (0),.bool false] true)],Pl,Pf,Pp]) ⟨ff,fs,Pf,Pp,rfl,hf,hfl,hpe⟩ (pe:=pe) (en:=en) (em:=em) (ip:=ip) (ik:=ik) (ed:=ed) (q2:=q2) hl hxj hn hen hS hlt hlen).on [_] [_,_] G
 have hm0:=hm0.tr (m.tr m1)
 have hmb:=hmb.tr (m.tr m1)
 refine ov 34 (J _ _) ?_
 have G:aa W H (n1) (cat [[(n,.cells [.int .i64 4,iN pe,iN en,iN em,iN ip,iN ik,ed] true)],cat [[(sw,.cells [lf,ff2,iN now] true)],[(qid,.cells [.ptr (pid) (0),.bool false] true)],Pl,Pf2,Pp2],cat (Aq++Bq),R]):=G
 have G:=aa.unp [_] [_,_] [_,_,_,_,_] G
 have G:=aa.inn [_] [_,_,_,_,_] G
 have G:=aa.inn [] [_,_,_,_,_] G
 refine ax 4 ?_
 have G:=aa.outAt [_] [_] G
 have G:=aa.swap [_] [_,_,_,_] G
 have G:=aa.swap [_,_] [_,_,_] G
 have G:=aa.pck [_,_,_] [_,_] [_,_] G
 have G:=aa.unspl [_,_,_] [_] G
 have G:=aa.outAt [_] [] G
 have G:=aa.rid [_] [_,_,_,_] G
 exact⟨.inr rfl,_,kr,W,_,aa.fin (Ps:=[_,_,_,_]) G,hm0,rfl,lf,lfs,ff2,fs2,Pl,Pf2,_,rfl,hl,hback _ hmb _ Pp2 hpe2,hf2,hfl2⟩
theorem By{X:Heap}{n:Nat}{sw:Nat}{ps:List aq}{fl:List Lt}{now:Nat}{P0:List (Nat×O)}(hsw:bv X sw ps fl now P0){pe:Nat}{s:aq}(hi:ps[pe]?=some s){en em ip ik:Nat}{ed:F}{s3:aq}(hj:ps[en]?=some s3)(hn:s.n≤1000)(hen:en≤1000)(hS:s.kn.length<1000)(hlt:en≠s.n→en∉s.kn→s.kn.length<3)(hlen:fl.length+1≤500):al 22 [vf (.ptr (sw) (0)),.u (.agg [.int .i64 4,iN pe,iN en,iN em,iN ip,iN ik,ed])] X n (P0) fun v X' P'=>v=.tup [.f .sl0,.f (.int .i64 0)]∧bv X' sw (ps.set pe {s with kn:=if en=s.n then s.kn else bp s.n s.kn en}) (fl++if en=s.n then[]else[⟨1,s.n,en,0,0,0,[],[]⟩]) now P':=by
 refine al.of_to1 kr fun R H0 s0=>?_
 have hm0:ab X X:=ab.rfl
 refine ag ?_
 obtain⟨_,G,J⟩:=ay s0 (.cells [.int .i64 4,iN pe,iN en,iN em,iN ip,iN ik,ed] true)
 refine ov 3 (J _ _ (vf (.ptr (n) (0)))) (ae 2 (sq (ah 2 (ar (nx (aP 1 (ov 9 (ld 0 (G.at 0 rfl) rfl) (aj (bk 0 (sq (ag (ov 11 (eF 4 1) (ae 1 (iF (ag (ov 12 (eF 4 2) (ae 1 (iF (ag (ov 13 (eF 4 3) (ae 1 (iF (ag (ov 14 (eT 4 4) (ae 1 (aM (nx (iT (ai 1 (ov 18 (la 0 7 [.int .i64 4,iN pe,iN en,iN em,iN ip,iN ik,ed] (G.at 0 rfl)) ?_))))))))))))))))))))))))))))))
 obtain⟨_,W,_,_,P9,m,G,J,⟨rfl,hsw⟩⟩:=(AT (pe:=pe) (en:=en) (em:=em) (ip:=ip) (ik:=ik) (ed:=ed) hsw hi hj hn hen hS hlt hlen).on [_] [_] G
 have hm0:=hm0.tr m
 refine ov 19 (J _ _) (ax 4 ?_)
 exact⟨.inr rfl,_,kr,W,_,aa.fin1 G,hm0,rfl,hsw⟩
theorem BF{X:Heap}{n:Nat}{sw:Nat}{ps:List aq}{fl:List Lt}{now:Nat}{P0:List (Nat×O)}(hsw:bv X sw ps fl now P0){lt:Lt}{s:aq}{Q:Nat}(hi:ps[lt.to]?=some s)(hear:mP now Q s lt)(hsend:∀ls an s2,jg now s lt ls an s2→∀l∈ls,cT l){rest:List Lt}(hfe:fl=lt::rest)(hlt:rest.length+1≤500):al 22 [vf (.ptr (sw) (0)),.u (.agg [.int .i64 8,.int .i64 0,.int .i64 0,.int .i64 0,.int .i64 0,.int .i64 0,.sl0])] X n (P0) fun v X' P'=>∃f ls an s2,v=.tup [.f f,.f (.int .i64 0)]∧c9 X' f an∧jg now s lt ls an s2∧ls.length≤1∧an.length≤1∧bv X' sw (ps.set lt.to s2) (rest++ls) now P':=by
 refine al.of_to1 kr fun R H0 s0=>?_
 have hm0:ab X X:=ab.rfl
 refine ag ?_
 obtain⟨_,G,J⟩:=ay s0 (.cells [.int .i64 8,.int .i64 0,.int .i64 0,.int .i64 0,.int .i64 0,.int .i64 0,.sl0] true)
 refine ov 3 (J _ _ (vf (.ptr (n) (0)))) (ae 2 (sq (ah 2 (ar (nx (aP 1 (ov 9 (ld 0 (G.at 0 rfl) rfl) (aj (bk 0 (sq (ag (ov 11 (eF 8 1) (ae 1 (iF (ag (ov 12 (eF 8 2) (ae 1 (iF (ag (ov 13 (eF 8 3) (ae 1 (iF (ag (ov 14 (eF 8 4) (ae 1 (iF (ag (ov 15 (eF 8 5) (ae 1 (iF (rg (ov 16 (eF 8 6) (ae 1 (iF (ag (ov 23 (eF 8 7) (ae 1 (iF (sq (ag (ov 27 (eT 8 8) (ae 1 (aM (nx (iT (ai 2 (ov 32 (ld 0 (G.at 0 rfl) rfl) (go 1 (ov 34 (ld 2 (G.at 0 rfl) rfl) ?_)))))))))))))))))))))))))))))))))))))))))))))))))
 obtain⟨_,W,_,_,P9,m,G,J,⟨f,ls,an,s2,rfl,han,hS,hl1,ha1,hsw⟩⟩:=(DA hsw hi hear hsend hfe hlt).on [_] [_] G
 have hm0:=hm0.tr m
 refine ov 35 (J _ _) (ax 4 ?_)
 exact⟨.inr rfl,_,kr,W,_,aa.fin1 G,hm0,f,ls,an,s2,rfl,han,hS,hl1,ha1,hsw⟩
theorem BE{X:Heap}{n:Nat}{sw:Nat}{ps:List aq}{fl:List Lt}{now:Nat}{P0:List (Nat×O)}(hsw:bv X sw ps fl now P0)(h0:0<ps.length)(h9:ps.length≤100)(hnow:now≤1000)(hok:∀s∈ps,lr (now+1) s)(hsend:∀s∈ps,∀ls an s2,jj (now+1) s ls an s2→∀l∈ls,cT l)(hlen:fl.length+ps.length≤500):al 22 [vf (.ptr (sw) (0)),.u (.agg [.int .i64 7,.int .i64 0,.int .i64 0,.int .i64 0,.int .i64 0,.int .i64 0,.sl0])] X n (P0) fun v X' P'=>∃f ls an ps2,v=.tup [.f f,.f (.int .i64 0)]∧c9 X' f an∧fR (now+1) ps ls an ps2∧ls.length≤ps.length∧an.length≤ps.length∧bv X' sw ps2 (fl++ls) (now+1) P':=by
 refine al.of_to1 kr fun R H0 s0=>?_
 have hm0:ab X X:=ab.rfl
 refine ag ?_
 obtain⟨_,G,J⟩:=ay s0 (.cells [.int .i64 7,.int .i64 0,.int .i64 0,.int .i64 0,.int .i64 0,.int .i64 0,.sl0] true)
 refine ov 3 (J _ _ (vf (.ptr (n) (0)))) (ae 2 (sq (ah 2 (ar (nx (aP 1 (ov 9 (ld 0 (G.at 0 rfl) rfl) (aj (bk 0 (sq (ag (ov 11 (eF 7 1) (ae 1 (iF (ag (ov 12 (eF 7 2) (ae 1 (iF (ag (ov 13 (eF 7 3) (ae 1 (iF (ag (ov 14 (eF 7 4) (ae 1 (iF (ag (ov 15 (eF 7 5) (ae 1 (iF (rg (ov 16 (eF 7 6) (ae 1 (iF (ag (ov 23 (eT 7 7) (ae 1 (iT (ai 1 ?_)))))))))))))))))))))))))))))))))))))))
 obtain⟨_,W,_,_,P9,m,G,J,⟨f,ls,an,ps2,rfl,han,hT,hl1,ha1,hsw⟩⟩:=(CI hsw h0 h9 hnow hok hsend hlen).on [_] [_] G
 have hm0:=hm0.tr m
 refine ov 25 (J _ _) (ax 2 ?_)
 exact⟨.inr rfl,_,kr,W,_,aa.fin1 G,hm0,f,ls,an,ps2,rfl,han,hT,hl1,ha1,hsw⟩
/-- a peer that is new -/
def gW(k:Nat):aq:=⟨k,0,0,0,[],⟨[],[],0⟩,[],none⟩
theorem rN{α:Type}{l:List α}{i:Nat}{a:α}(h:l[i]?=some a):l.set i a=l:=by
 apply List.ext_getElem?
 intro j
 rw[List.getElem?_set]
 split
 ·rename_i e;subst e;split
  ·exact h.symm
  ·rename_i h2;have:=(List.getElem?_eq_some_iff.1 h).1;omega
 ·rfl
theorem D9{X:Heap}{n:Nat}{Q:Nat}(h1:1≤Q)(h4:Q≤4)(ht:ap X n):bF 33 [vi Q,vi 500,vi 9000] X n fun v X' M'=>∃sw,v=.tup [.f (.ptr sw 0),.f (.int .i64 0)]∧bv X' sw ((List.range Q).map gW) [] 0 M':=by
 refine bF.of_to kr ?_
 have s0:aa X X n (cat [[]]):=aa.ini ht
 have hm0:ab X X:=ab.rfl
 refine ah 2 (aP 1 (ov 11 (lF Q 1) (go 2 (ov 14 (gF Q 12) ?_))))
 have s:=aa.addN s0 (rfl)
 have s1:=aa.addN s (rfl)
 refine ae 1 (ar (nx (ai 1 ?_)))
 obtain⟨_,s2,J⟩:=ay s1 (.cells [.sl0,.sl0,.int .i64 0] true)
 refine ov 17 (J _ _ (vf (.ptr (n) (0)))) (ae 1 (sq (ah 2 (bk 0 (lp (aC.for (Q) (fun i A Hq nq=>∃(Y:Heap) (lf1:F) (fs1:List F) (Pl1:List (Nat×O)) (Pps1:List (List (Nat×O))),aL A [(1,vi 500),(2,vi 9000),(8,vf (.ptr (n) (0))),(18,vi Q),(19,vi i)]∧aa Y Hq nq (cat [[(n,.cells [lf1,.sl0,iN 0] true)],Pl1,cat Pps1])∧(ab X Y)∧(av 1 lf1 fs1 Pl1)∧(d9 Y ((List.range i).map gW) fs1 Pps1)∧(fs1.length=i)) ⟨X,.sl0,[],[],[],az (ts:=[1,2,8,18,19]) kr,s2,(hm0),(av.nil 1),(trivial),(rfl)⟩ (fun i A H n1 hi hI=>?_) (fun A H n1 hI=>?_)))))))
 ·obtain⟨Y,lf1,fs1,Pl1,Pps1,qA,s3,hm0,hl,hps,hfl1⟩:=hI
  refine To.keep _ ?_ qA.sub
  refine ag (ov 20 (lT i Q) (aQ (aM (nx (aD 1 (ah 2 (dw [5,6,7,8,1,2,3,4,9,10,11,12,0,13,14,15] (sg [5,6,7] ?_))))))))
  obtain⟨_,_,_,n2,Pp,m,s4,J,⟨pid,rfl,hpe⟩⟩:=(C7 (k:=i) s3.topX).on s3
  refine sf (some 30) (J _ _) trivial (sg [1,2,3] (sr (some 26) (n) ⟨ke (s3.at 0 rfl) (s4.at 0 rfl),trivial⟩ (am (off:=0) (s4.at 0 rfl) rfl) (sg [9] ?_)))
  obtain⟨_,s5,J⟩:=ay s4 (.cells [.ptr (pid) (0),.bool false] true)
  refine sf (some 32) (J _ _ (vf (.ptr (n2) (0)))) ⟨ke (s4.at 0 rfl) (s5.at 1 rfl),trivial⟩ ?_
  obtain⟨W,_,s6,m1,f1,J⟩:=bj s5 (.cells [.ptr (n2) (0)] true)
  have hm0:=hm0.tr (m.tr m1)
  have hps:=hps.mono (m.tr m1)
  have hpe:=hpe.mono m1
  refine sf (some 33) (J _ _ (vf (.sl (n2+1) (0) 1 (1) none))) ⟨ke (s5.at 1 rfl) (s6.at 1 rfl),trivial⟩ ?_
  obtain⟨a,_,_,_,ho1286,s7,J⟩:=b6 (sz:=1) (bytes:=8) (x:=.sl (n2+1) (0) 1 (1) none) (new:=[.ptr (n2) (0)]) [_] [_,_] s6 (hl) (bf (s6.mono _ _ f1) rfl) (rfl) om om
  refine sf (some 34) (J _ _) (oR kr) (sg [0,13,14] ?_)
  obtain⟨_,s8,J⟩:=aI (off:=0) (new:=[a]) (cs':=[a,.sl0,iN 0]) s7 1 rfl sm rfl
  refine sf none (J _ _) (oR kr) (sx (nx (rg ?_)))
  have s9:=aa.outAt [] [_] s8
  have s10:=aa.swap [_] [_,_] s9
  have s11:=aa.swap [_,_] [_] s10
  have s12:=aa.pck [_,_,_] [] [_,_] s11
  have s13:=aa.swap [_,_] [] s12
  have s14:=aa.unspl (A:=Pps1) (B:=[]) [_,_] [] (by rw[List.append_nil];exact s13)
  refine ov 37 (aN i 1) (aR 1 ?_)
  exact .inl ⟨rfl,W,a,_,_,_,az (ts:=[1,2,8,18,19]) kr,s14,(hm0),(ho1286),(by rw[List.range_succ,List.map_append];exact hps.snoc hpe),(by rw[List.length_append,hfl1];rfl)⟩
 ·obtain⟨Y,lf1,fs1,Pl1,Pps1,qA,s15,hm0,hl,hps,hfl1⟩:=hI
  refine To.keep _ ?_ qA.sub
  refine ag (ov 20 (lF Q Q) (aQ (iF (xt 0 ?_))))
  refine⟨sm,?_⟩
  show To Tryz.prog 33 [1,1,1,1] _ _ _ _
  refine ah 3 (rt ?_)
  exact⟨.inr rfl,_,kr,Y,_,s15,hm0,n,rfl,lf1,fs1,.sl0,[],Pl1,[],Pps1,by simp[cat],hl,hps,av.nil 8,rfl⟩
/-- what holds until nothing flies any more -/
structure ju(now:Nat)(J:List aq→List Lt→List An→Prop)(mu:List aq→List Lt→Nat):Prop where
 step:∀ps lt rest an,J ps (lt::rest) an→∃s Q,ps[lt.to]?=some s∧mP now Q s lt∧rest.length+1≤500∧∀ls a s2,jg now s lt ls a s2→(∀l∈ls,cT l)∧J (ps.set lt.to s2) (rest++ls) (an++a)∧mu (ps.set lt.to s2) (rest++ls)<mu ps (lt::rest)
theorem BL{X:Heap}{n:Nat}{sw:Nat}{ps:List aq}{fl:List Lt}{now:Nat}{P0:List (Nat×O)}(hsw:bv X sw ps fl now P0){i:Nat}{s:aq}(hi:ps[i]?=some s)(hS:s.kn.length≤12):al 35 [vf (.ptr (sw) (0)),vi i] X n (P0) fun v X' P'=>∃a l P1 Pa,v=vf a∧P'=cat [P1,Pa]∧bv X' sw ps fl now P1∧av 1 a (is l) Pa∧l.Perm s.kn:=by
 obtain⟨lf,lfs,ff,fs,Pl,Pf,Pps,rfl,hl,hps,hf,hfl⟩:=hsw
 refine al.of_to (Ps:=[[(sw,.cells [lf,ff,iN now] true)],Pl,Pf,cat Pps]) kr fun R H0 s0=>?_
 have hm0:ab X X:=ab.rfl
 refine ah 1 (ag ?_)
 obtain⟨qid,pid,Pp,Aq,Bq,hx,rfl,hpe,hback⟩:=hps.at hi
 have hmb:ab X X:=ab.rfl
 have G:=aa.spl [_,_,_] [_] s0
 have G:=aa.unp [_,_,_] [_,_] [_,_] G
 have G:=aa.inn [_,_] [_,_,_] G
 have G:=aa.outAt [_] [] G
 have G:=aa.pck [_] [_,_,_,_] [_,_] G
 refine go 2 ?_
 obtain⟨_,_,_,_,Q7,m,G,J,⟨rfl,rfl⟩⟩:=(jE (sw:=sw) (now:=now) (ff:=ff) (i:=i) hl hx).on [_] [_,_,_,_] G
 have hpe:=hpe.mono m
 refine ov 8 (J _ _) ?_
 have G:=aa.unp [_] [_,_,_,_] [_,_] G
 have G:=aa.inn [] [_,_,_,_,_] G
 refine ae 1 (sq (ah 2 (ar (nx (ag ?_)))))
 obtain⟨sid,tid,opf,lf9,wf,Pw,Ps,Pt,Po,rfl,hw,hcw,hst,htk,hop⟩:=hpe
 have G:=aa.unp [_,_,_] [_,_] [_,_,_,_,_] G
 have G:=aa.inn [_,_] [_,_,_,_,_,_] G
 refine go 3 (ov 14 (ld 0 (G.at 2 rfl) rfl) (go 2 (ov 17 (ld 1 (G.at 0 rfl) rfl) ?_)))
 obtain⟨_,W,_,_,Q1,m1,G,J,⟨a,l,Pa,rfl,rfl,ha,hl0⟩⟩:=(re htk hS).on [_,_,_,_,_] [_,_,_] G
 have hm0:=hm0.tr (m.tr m1)
 have hfl:=hfl.mono fun _ _ q=>bM.mono _ _ _ _ (m.tr m1) q
 have hmb:=hmb.tr (m.tr m1)
 have hst:=hst.mono m1
 have hop:=hop.mono m1
 refine ov 18 (J _ _) ?_
 have G:=aa.unp [_,_,_,_,_] [_,_,_] [_,_] G
 refine ax 1 ?_
 have G:=aa.outAt [] [_,_] G
 have G:=aa.swap [_,_,_] [_,_,_,_,_,_] G
 have G:=aa.swap [_,_] [_,_,_,_,_,_,_] G
 have G:=aa.swap [_,_,_,_] [_,_,_,_,_] G
 have G:=aa.swap [_,_,_] [_,_,_,_,_,_] G
 have G:=aa.swap [_,_,_,_,_] [_,_,_,_] G
 have G:=aa.swap [_,_,_,_] [_,_,_,_,_] G
 have G:=aa.swap [_,_,_,_,_,_,_] [_,_] G
 have G:=aa.swap [_,_,_,_,_,_] [_,_,_] G
 have G:=aa.swap [_,_,_,_,_] [_,_,_,_] G
 have G:=aa.pck [_] [_,_,_,_,_] [_,_,_,_,_] G
 have G:=aa.outAt [_] [] G
 have G:=aa.pck [_] [_,_,_,_,_] [_,_] G
 have G:=aa.swap [_] [_,_,_,_] G
 have G:=aa.swap [_,_] [_,_,_] G
 have G:=aa.swap [_,_,_] [_,_] G
 have G:=aa.unspl [_,_,_,_] [_] G
 have G:=aa.outAt [] [] G
 have G:=aa.swap [_,_,_,_] [_] G
 have G:=aa.pck [_] [_,_] [_,_,_,_] G
 exact⟨.inr rfl,_,kr,W,_,aa.fin (Ps:=[_,_]) (aa.out0 G),hm0,a,l,_,Pa,rfl,rfl,⟨lf,lfs,ff,fs,Pl,Pf,_,rfl,hl,by have:=hback _ hmb s _ ⟨sid,tid,opf,lf9,wf,Pw,Ps,Pt,Po,rfl,hw,hcw,hst,htk,hop⟩;rwa [rN hi]at this,hf,hfl⟩,ha,hl0⟩
theorem nX{X:Heap}{n:Nat}{sw:Nat}{ps:List aq}{fl:List Lt}{now:Nat}{P0:List (Nat×O)}(hsw:bv X sw ps fl now P0){J:List aq→List Lt→List An→Prop}{mu:List aq→List Lt→Nat}(hc:ju now J mu)(hJ:J ps fl [])(hmu:mu ps fl<1000):al 20 [vf (.ptr (sw) (0))] X n (P0) fun v X' P'=>∃f gs Pc an ps2 P1,v=vf f∧P'=cat [P1,Pc]∧av 6 f gs Pc∧aA (dK X') 6 an gs∧J ps2 [] an∧an.length≤1000∧bv X' sw ps2 [] now P1:=by
 refine al.of_to1 kr fun R H0 s0=>?_
 have hm0:ab X X:=ab.rfl
 have s1:=aa.addN s0 (rfl)
 refine ah 1 (ah 1 (sq (ah 1 (bk 0 (lp (aC.for (1000) (fun i A Hq nq=>∃(Y:Heap) (ps1:List aq) (fl1:List Lt) (an:List An) (P1:List (Nat×O)) (ac:F) (gs:List F) (Pc:List (Nat×O)),aL A [(0,vf (.ptr (sw) (0))),(3,vf (ac)),(4,vi i)]∧aa Y Hq nq (cat [[],P1,R,Pc])∧(ab X Y)∧(bv Y sw ps1 fl1 now P1)∧(J ps1 fl1 an)∧(mu ps1 fl1+i<1000)∧(av 6 ac gs Pc)∧(aA (dK Y) 6 an gs)∧(an.length≤i)) ⟨X,ps,fl,[],P0,.sl0,[],[],az (ts:=[0,3,4]) kr,s1,(hm0),(hsw),(hJ),(hmu),(av.nil 6),(rfl),sm⟩ (fun i A H n1 hi hI=>?_) (fun A H n1 hI=>?_)))))))
 ·obtain⟨Y,ps1,fl1,an,P1,ac,gs,Pc,qA,s3,hm0,hsw,hJ,hmu,hac,hcg,hal⟩:=hI
  refine To.keep _ ?_ qA.sub
  refine aP 1 (ov 8 (lT i 1000) (go 2 ?_))
  obtain⟨_,X1,_,_,P1,m,s4,J1,⟨rfl,rfl⟩⟩:=(BB hsw).on [_] [_,_] s3
  have hm0:=hm0.tr m
  have hsw:=hsw.mono m
  have hcg:=hcg.mono fun _ _ q=>dK.mono _ _ _ _ m q
  refine ov 11 (J1 _ _) ?_
  rcases fl1 with _ | ⟨lt,rest⟩
  ·refine ov 12 (gF 0 0) (ae 1 (iF (xt 0 (.inr ⟨sm,?_⟩))))
   show To Tryz.prog 20 [1,1,1] _ _ _ _
   refine ah 2 (rt ?_)
   have s5:=aa.swap [_,_] [] s4
   exact⟨.inr rfl,_,kr,X1,_,aa.fin (Ps:=[_,_]) (aa.out0 s5),hm0,ac,gs,Pc,an,ps1,P1,rfl,rfl,hac,hcg,hJ,om,hsw⟩
  ·refine ov 12 (gT ((lt::rest).length) 0 sm) ?_
   obtain⟨s,Q,hi2,hear,hlt,hnx⟩:=hc.step _ _ _ _ hJ
   have hcl:=hcg.len
   refine ae 1 (aM (nx (aD 1 (ai 2 ?_))))
   obtain⟨_,X2,_,_,P2,m1,s6,J2,⟨f,ls,a,s2,rfl,han,hS,hl1,ha1,hsw⟩⟩:=(BF hsw hi2 hear (fun ls a s2 h=>(hnx ls a s2 h).1) rfl hlt).on [_] [_,_] s4
   have hm0:=hm0.tr m1
   have hcg:=hcg.mono fun _ _ q=>dK.mono _ _ _ _ m1 q
   refine ov 19 (J2 _ _) ?_
   obtain⟨_,hJ2,hmu2⟩:=hnx ls a s2 hS
   obtain⟨gs2,hg2,hcg2⟩:=han.row
   refine ae 5 (rg (go 2 ?_))
   obtain⟨_,_,_,_,ho1795,s7,J3⟩:=b6 (sz:=6) (bytes:=64) (x:=f) (new:=gs2) [_,_,_] [] s6 (hac) (aO s6.mono hg2) (han.lenA) om om
   refine ov 24 (J3 _ _) (ae 1 (rg (go 1 (ov 15 (aN i 1) (aR 1 ?_)))))
   exact .inl ⟨rfl,X2,_,_,_,_,_,_,_,az (ts:=[0,3,4]) kr,s7,(hm0),(hsw),(hJ2),om,(ho1795),(hcg.append hcg2),(by rw[List.length_append];omega)⟩
 ·obtain⟨Y,ps1,fl1,an,P1,ac,gs,Pc,qA,_,hm0,hsw,hJ,hmu,hac,hcg,hal⟩:=hI
  refine To.keep _ ?_ qA.sub
  exact absurd hmu om
end Go.Proofs.YtkimkgbppegkhaaGreat.Cm
