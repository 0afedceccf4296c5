/- The clean machine's walks of the swarm (3): a letter arrives. · The clean machine's walks of the swarm (4): the clock. · The clean machine's walks of the swarm (5): what is asked of a peer. -/
import Derived.Test.YtkimkgbppegkhaaGreatUb
set_option linter.unusedVariables false
set_option linter.unusedSimpArgs false
namespace Go.Proofs.YtkimkgbppegkhaaGreat.Cm
open Go Go.RowKit Go.Proofs.YtkimkgbppegkhaaGreat.Gf
set_option maxRecDepth 1000000
theorem DT{X:Heap}{n:Nat}{k len i:Nat}{cs:List F}{ex:Bool}(hl:len*8≤cs.length)(hi:i<len)(hlt:len<100000):al 63 [vf (.sl (k) (0) 8 (len) none),vi i,vi (i+1)] X n (cat [[(k,.cells (cs) ex)]]) fun v _ P'=>∃cs',v=vf (.sl k 0 8 (len-1) none)∧P'=cat [[(k,.cells cs' ex)]]∧(len-1)*8≤cs'.length∧cs'.take ((len-1)*8)=cs.take (i*8)++(cs.take (len*8)).drop ((i+1)*8):=by
 refine al.of_to (Ps:=[[(k,.cells (cs) ex)]]) kr fun R H0 s0=>?_
 have hm0:ab X X:=ab.rfl
 refine ah 1 (ai 4 (ov 12 (ln len) (ov 13 (zZ (id:=k) (off:=0) (sz:=8) (len:=len) (L:=cs.length) (l:=i) (h:=i+1) (m:=len) (by rw[s0.at 0 rfl];rfl) om om om om kr) (aj (aP 2 (ov 16 (eF i (i+1)) (aj (ar (nx (ai 1 (ov 19 (ln len) (ae 1 (sq (dw [0,1,2,3,4,5,6,7] (sg [0,1] (sr (some 22) (k) trivial (c7 (id:=k) (off:=0) (sz:=8) (len:=len) (L:=cs.length) (l:=0) (h:=i) (cap:=none) (lo:=none) (hi:=some i) (by rw[s0.at 0 rfl];rfl) rfl rfl om om (fun c h=>nomatch h) om) (sg [3,4] (sr (some 25) (k) trivial (c7 (id:=k) (off:=0) (sz:=8) (len:=len) (L:=cs.length) (l:=i+1) (h:=len) (cap:=none) (lo:=some (i+1)) (hi:=none) (by rw[s0.at 0 rfl];rfl) rfl rfl om om (fun c h=>nomatch h) om) ?_))))))))))))))))))
 obtain⟨_,s,J⟩:=qm (sz:=8) (bytes:=96) (len:=i) (m:=(len-(i+1))) (x:=.sl (k) (0+(i+1)*8) 8 (len-(i+1)) none) (new:=(cs.drop ((i+1)*8)).take ((len-(i+1))*8)) (cs':=aJ cs (i*8) ((cs.drop ((i+1)*8)).take ((len-(i+1))*8))) s0 0 rfl (yQ s0 rfl om om) (rfl) om om om rfl
 refine sf (some 26) (J _ _) (oR kr) ?_
 have hcl:(aJ cs (i*8) ((cs.drop ((i+1)*8)).take ((len-(i+1))*8))).length=cs.length:=by simp only[aJ,List.length_append,List.length_take,List.length_drop];omega
 refine sg [7] (sx (nx (ai 2 (ov 29 (ln (i+(len-(i+1)))) (go 1 (ov 31 (c7 (id:=k) (off:=0) (sz:=8) (len:=i+(len-(i+1))) (L:=(aJ cs (i*8) ((cs.drop ((i+1)*8)).take ((len-(i+1))*8))).length) (l:=i+(len-(i+1))) (h:=len) (cap:=none) (lo:=some (i+(len-(i+1)))) (hi:=some len) (by rw[s.at 0 rfl];rfl) rfl rfl om om (fun c h=>nomatch h) om) ?_))))))
 obtain⟨_,cs4,hl4,hc4,s,J⟩:=mY (off:=0+(i+(len-(i+1)))*8) (len:=len-(i+(len-(i+1)))) (sz:=8) (cap:=none) (tz 145) s 0 rfl om
 refine oe (J _ _) (aj ?_)
 have e1:i+(len-(i+1))=len-1:=by omega
 rw[Nat.zero_add,e1]at hc4
 refine ah 2 (rt ?_)
 exact⟨.inr rfl,vf (.sl k 0 8 (i+(len-(i+1))) none),kr,X,_,aa.fin (Ps:=[_]) s,hm0,cs4,by rw[e1],rfl,om,hc4.trans (vk hl hi)⟩
theorem G2{X:Heap}{n:Nat}{f:F}{fs:List F}{P0:List (Nat×O)}{len i:Nat}(ho:av 8 f fs P0)(hl:fs.length=len*8)(hi:i<len)(hlt:len<100000):al 63 [vf f,vi i,vi (i+1)] X n P0 fun v _ P'=>∃f2,v=vf f2∧av 8 f2 (fs.take (i*8)++fs.drop ((i+1)*8)) P':=by
 rcases ho with⟨rfl,rfl,rfl⟩|⟨k,len2,cs,ex,rfl,rfl,hl2,rfl⟩
 ·rw[List.length_nil]at hl;omega
 ·rw[List.length_take,Nat.min_eq_left hl2]at hl
  have:len2=len:=by omega
  subst this
  exact(DT (ex:=ex) hl2 hi hlt).imp fun v X' P' h=>by
   obtain⟨cs',h1,h2,h3,h4⟩:=h
   refine⟨_,h1,.inr ⟨k,len2-1,cs',ex,rfl,by rw[h2,fP],h3,?_⟩⟩
   rw[h4,List.take_take,Nat.min_eq_left (Nat.mul_le_mul_right _ om)]
theorem A_{X:Heap}{n:Nat}{sw:Nat}{ps:List aq}{fl:List Lt}{now:Nat}{P0:List (Nat×O)}(hsw:bv X sw ps fl now P0){fp fq:F}{lt:Lt}{s:aq}{Q:Nat}(hi:ps[lt.to]?=some s)(hear:mP now Q s lt)(hsend:∀ls an s2,jg now s lt ls an s2→∀l∈ls,cT l)(hlt:fl.length+1≤500)(hp:bo X fp lt.ps)(hq:ck X fq lt.rs):al 64 [vf (.ptr (sw) (0)),.u (.agg [iN lt.kind,iN lt.fr,iN lt.to,iN lt.tag,iN lt.ip,iN lt.ik,fp,fq])] X n (P0) fun v X' P'=>∃f ls an s2,v=vf f∧c9 X' f an∧jg now s lt ls an s2∧ls.length≤1∧an.length≤1∧bv X' sw (ps.set lt.to s2) (fl++ls) now P':=by
 obtain⟨lf,lfs,ff,fs,Pl,Pf,Pps,rfl,hl,hps,hf,hfl⟩:=hsw
 refine al.of_to (Ps:=[[(sw,.cells [lf,ff,iN now] true)],Pl,Pf,cat Pps]) kr fun R H0 s0=>?_
 have hm0:ab X X:=ab.rfl
 refine ag ?_
 obtain⟨_,G,J⟩:=ay s0 (.cells [iN lt.kind,iN lt.fr,iN lt.to,iN lt.tag,iN lt.ip,iN lt.ik,fp,fq] true)
 refine ov 3 (J _ _ (vf (.ptr (n) (0)))) (ae 1 (ai 2 (ov 10 (ld 2 (G.at 0 rfl) rfl) ?_)))
 obtain⟨qid,pid,Pp,Aq,Bq,hx,rfl,hpe,hback⟩:=hps.at hi
 have hmb:ab X X:=ab.rfl
 have G:=aa.spl [_,_,_] [_] G
 have G:=aa.unp [_,_,_] [_,_] [_,_] G
 have G:=aa.inn [_,_] [_,_,_] G
 have G:=aa.outAt [_,_] [] G
 have G:=aa.pck [_] [_,_,_,_] [_,_] G
 obtain⟨_,_,_,_,Q7,m,G,J,⟨rfl,rfl⟩⟩:=(jE (sw:=sw) (now:=now) (ff:=ff) (i:=lt.to) hl hx).on [_] [_,_,_,_] G
 have hp:=aO m hp
 have hq:=hq.mono m
 have hpe:=hpe.mono m
 refine ov 11 (J _ _) ?_
 have G:=aa.unp [_] [_,_,_,_] [_,_] G
 have G:=aa.inn [] [_,_,_,_,_] G
 refine ae 1 (aP 6 (ov 18 (ld 1 (G.at 1 rfl) rfl) (ae 1 (ar (nx (sq (dw [0,1,2,3,4,5,6,7,8,9,10,11,12,13,14] (sg [0,1,2] (sr (some 24) (qid) trivial (am (off:=0) (G.at 1 rfl) rfl) (sg [4,5,6] (sr (some 28) (sw) trivial (am (off:=2) (G.at 0 rfl) rfl) (sr (some 29) (n) trivial (aG (off:=0) (sz:=8) (c:=[iN lt.kind,iN lt.fr,iN lt.to,iN lt.tag,iN lt.ip,iN lt.ik,fp,fq]) (G.at 2 rfl) sm rfl) ?_))))))))))))
 obtain⟨_,_,_,_,Pp2,m1,G,J,⟨ls,an,s2,⟨a,b,rfl,hls,han,hl1,ha1⟩,hS,hpe2⟩⟩:=(C3 (lt:=lt) hpe ⟨fp,fq,rfl,hp,hq⟩ hear).on [_,_,_] [_,_] G
 have hfl:=hfl.mono fun _ _ q=>bM.mono _ _ _ _ (m.tr m1) q
 refine sf (some 30) (J _ _) (oR kr) (sg [10,11,12,13,14] (sx (nx (ag ?_))))
 have G:=aa.outAt [] [_,_] G
 have G:=aa.swap [_] [_,_,_,_] G
 have G:=aa.pck [_,_] [_,_,_] [_,_] G
 refine go 2 ?_
 obtain⟨_,W,_,_,Q6,m2,G,J,⟨rfl,ff2,fs2,Pf2,rfl,hf2,hfl2⟩⟩:=(kM (sw:=sw) (now:=now) (lf:=lf) (ff:=ff) (fl:=fl) (ls:=ls) hf hfl hls (hsend ls an s2 hS) om).on [_,_] [_,_,_] G
 have hm0:=hm0.tr (m.tr (m1.tr m2))
 have hmb:=hmb.tr (m.tr (m1.tr m2))
 have han:=han.mono m2
 have hpe2:=hpe2.mono m2
 refine ov 35 (J _ _) (aj ?_)
 have G:=aa.unp [_,_] [_,_,_] [_,_] G
 have G:=aa.inn [_] [_,_,_,_] G
 refine ah 2 (rt ?_)
 have G:=aa.outAt [_] [_] G
 have G:=aa.swap [_] [_,_,_,_] G
 have G:=aa.swap [_,_] [_,_,_] G
 have G:=aa.pck [_,_,_] [_,_] [_,_] G
 have G:=aa.unspl [_,_,_] [_] G
 have G:=aa.outAt [_] [] G
 have G:=aa.rid [_] [_,_,_,_] G
 exact⟨.inr rfl,_,kr,W,_,aa.fin (Ps:=[_,_,_,_]) G,hm0,b,ls,an,s2,rfl,han,hS,hl1,ha1,lf,lfs,ff2,fs2,Pl,Pf2,_,rfl,hl,hback _ hmb s2 Pp2 hpe2,hf2,hfl2⟩
theorem DA{X:Heap}{n:Nat}{sw:Nat}{ps:List aq}{fl:List Lt}{now:Nat}{P0:List (Nat×O)}(hsw:bv X sw ps fl now P0)  {lt:Lt}{s:aq}{Q:Nat}(hi:ps[lt.to]?=some s)(hear:mP now Q s lt)(hsend:∀ls an s2,jg now s lt ls an s2→∀l∈ls,cT l){rest:List Lt}(hfe:fl=lt::rest)(hlt:rest.length+1≤500):al 39 [vf (.ptr (sw) (0)),vf (.int .i64 8),vf (.int .i64 0)] X n (P0) fun v X' P'=>∃f ls an s2,v=.tup [.f f,.f (.int .i64 0)]∧c9 X' f an∧jg now s lt ls an s2∧ls.length≤1∧an.length≤1∧bv X' sw (ps.set lt.to s2) (rest++ls) now P':=by
 obtain⟨lf,lfs,ff,fs,Pl,Pf,Pps,rfl,hl,hps,hf,hfl⟩:=hsw
 subst hfe
 refine al.of_to (Ps:=[[(sw,.cells [lf,ff,iN now] true)],Pl,Pf,cat Pps]) kr fun R H0 s0=>?_
 have hm0:ab X X:=ab.rfl
 refine ah 2 (aP 1 (ov 10 (lF 0 0) (go 5 (ov 16 (ld 1 (s0.at 0 rfl) rfl) (ov 17 (lv ((lt::rest).length) (hf.lenC om hfl)) (ov 18 (hF 0 ((lt::rest).length) (by rw[List.length_cons];omega)) (ae 1 (ar (nx (ag ?_))))))))))
 obtain⟨kf,csf,exf,cf,rfl,hf2,hf3,hf4,hcfl,hR,_⟩:=hf.at om hfl (show(lt::rest)[0]?=some lt from rfl) [_,_] [_,_] s0
 obtain⟨fp,fq,rfl,hp,hq⟩:=hR
 refine go 3 (ov 23 (ld 1 (s0.at 0 rfl) rfl) (go 1 (ov 25 (ix kf 0 8 ((lt::rest).length) 0) (ov 26 (aG (id:=kf) (off:=0+0*8) (sz:=8) (c:=[iN lt.kind,iN lt.fr,iN lt.to,iN lt.tag,iN lt.ip,iN lt.ik,fp,fq]) hf2 hf3 hf4) ?_))))
 obtain⟨_,G,J⟩:=ay s0 (.cells [.int .i64 0,.int .i64 0,.int .i64 0,.int .i64 0,.int .i64 0,.int .i64 0,.sl0,.sl0] true)
 refine ov 8 (J _ _ (vf (.ptr (n) (0)))) ?_
 obtain⟨_,G,J⟩:=aI (off:=0) (new:=[iN lt.kind,iN lt.fr,iN lt.to,iN lt.tag,iN lt.ip,iN lt.ik,fp,fq]) (cs':=[iN lt.kind,iN lt.fr,iN lt.to,iN lt.tag,iN lt.ip,iN lt.ik,fp,fq]) G 0 rfl sm rfl
 refine oe (J _ _) (aj (aP 1 (ov 28 (eF 8 10) (aj (ar (nx (ai 4 (ov 37 (ld 1 (G.at 1 rfl) rfl) (go 2 (ov 40 (aN 0 1) ?_))))))))))
 obtain⟨_,W,_,_,Pf,m,G,J,⟨f2,rfl,hf⟩⟩:=(G2 (len:=(lt::rest).length) (i:=0) hf hfl.len sm (by rw[List.length_cons];omega)).on [_,_] [_,_] G
 have hps:=hps.mono m
 have hfl:=hfl.mono fun _ _ q=>bM.mono _ _ _ _ m q
 have hp:=aO m hp
 have hq:=hq.mono m
 refine ov 41 (J _ _) ?_
 have hfl2:aA (bM W) 8 rest (fs.take (0*8)++fs.drop ((0+1)*8)):=by simpa using hfl.drop 1
 refine go 2 ?_
 obtain⟨_,G,J⟩:=aI (off:=1) (new:=[f2]) (cs':=[lf,f2,iN now]) G 1 rfl sm rfl
 refine oe (J _ _) (aj (aP 1 (ov 45 (eF 8 9) (aj (ar (nx (ai 1 (ov 47 (la 0 8 [iN lt.kind,iN lt.fr,iN lt.to,iN lt.tag,iN lt.ip,iN lt.ik,fp,fq] (G.at 0 rfl)) ?_))))))))
 have G:=aa.outAt [_] [] G
 have G:=aa.pck [_] [_] [_,_,_,_] G
 obtain⟨_,W,_,_,P9,m1,G,J,⟨f,ls,an,s2,rfl,han,hS,hl1,ha1,hsw⟩⟩:=(A_ (lt:=lt) (fl:=rest) (ps:=ps) (now:=now) (P0:=cat [[(sw,.cells [lf,f2,iN now] true)],Pl,Pf,cat Pps]) (fp:=fp) (fq:=fq) ⟨lf,lfs,f2,_,Pl,Pf,Pps,rfl,hl,hps,hf,hfl2⟩ hi hear hsend om hp hq).on [_] [_] G
 have hm0:=hm0.tr (m.tr m1)
 refine ov 48 (J _ _) (ax 2 ?_)
 exact⟨.inr rfl,_,kr,W,_,aa.fin1 G,hm0,f,ls,an,s2,rfl,han,hS,hl1,ha1,hsw⟩
/-- the clock's tick, one peer behind another -/
inductive fR(now:Nat):List aq→List Lt→List An→List aq→Prop where
 |nil:fR now [] [] [] []
 |snoc {ss ss2:List aq} {ls l:List Lt} {an a:List An} {s s2:aq} (h:fR now ss ls an ss2) (g:jj now s l a s2):fR now (ss++[s]) (ls++l) (an++a) (ss2++[s2])
theorem av.atAll{f:F}{fs:List F}{M:List (Nat×O)}(h:av 1 f fs M)(h0:0<fs.length):∃k cs ex,f=.sl k 0 1 fs.length none∧M=[(k,.cells cs ex)]∧∀(i:Nat) x,fs[i]?=some x→cs[i]?=some x:=by
 rcases h with⟨_,rfl,_⟩|⟨k,len,cs,ex,rfl,rfl,h1,rfl⟩
 ·simp at h0
 ·refine⟨k,cs,ex,by rw[List.length_take];congr 1;omega,rfl,fun i x hx=>?_⟩
  rw[List.getElem?_take]at hx
  split at hx
  ·exact hx
  ·cases hx
theorem EN{α:Type}{ps ss:List α}{i:Nat}{s s2:α}(hx:ps[i]?=some s)(hl:ss.length=i):(ss++ps.drop i).set i s2=(ss++[s2])++ps.drop (i+1):=by
 obtain⟨h1,h2⟩:=List.getElem?_eq_some_iff.1 hx
 rw[List.drop_eq_getElem_cons h1,List.set_append_right _ _ om,hl,Nat.sub_self,List.set_cons_zero,List.append_assoc]
 rfl
theorem CI{X:Heap}{n:Nat}{sw:Nat}{ps:List aq}{fl:List Lt}{now:Nat}{P0:List (Nat×O)}(hsw:bv X sw ps fl now P0)(h0:0<ps.length)(h9:ps.length≤100)(hnow:now≤1000)(hok:∀s∈ps,lr (now+1) s)(hsend:∀s∈ps,∀ls an s2,jj (now+1) s ls an s2→∀l∈ls,cT l)(hlen:fl.length+ps.length≤500):al 38 [vf (.ptr (sw) (0))] X n (P0) fun v X' P'=>∃f ls an ps2,v=vf f∧c9 X' f an∧fR (now+1) ps ls an ps2∧ls.length≤ps.length∧an.length≤ps.length∧bv X' sw ps2 (fl++ls) (now+1) P':=by
 obtain⟨lf,lfs,ff,fs,Pl,Pf,Pps,rfl,hl,hps,hf,hfl⟩:=hsw
 refine al.of_to (Ps:=[[(sw,.cells [lf,ff,iN now] true)],Pl,Pf,cat Pps]) kr fun R H0 s0=>?_
 have hm0:ab X X:=ab.rfl
 refine ah 1 (ag ?_)
 skip
 have hpl:=hps.len
 have hpl:=hps.len
 obtain⟨ka,csa,exa,rfl,rfl,hall⟩:=hl.atAll om
 have G:=aa.inn [] [_,_,_] s0
 refine go 3 (ov 11 (ld 2 (G.at 1 rfl) rfl) (ov 12 (aN now 1) (go 2 ?_)))
 obtain⟨_,G,J⟩:=aI (off:=2) (new:=[iN (now+1)]) (cs':=[.sl (ka) (0) 1 (lfs.length) none,ff,iN (now+1)]) G 1 rfl sm rfl
 refine oe (J _ _) (aj (ah 1 (aP 3 (ov 18 (ld 0 (G.at 1 rfl) rfl) ?_))))
 have G:=aa.outAt [_] [] G
 have G:=aa.inn [] [_,_,_] G
 have G:=aa.outAt [_] [] G
 have G:=aa.inn [] [_,_,_] G
 have G:=aa.addN G (rfl)
 refine ov 19 (ln lfs.length) (ae 1 (bk 0 (lp (aC.for (lfs.length) (fun i A Hq nq=>∃(Y:Heap) (ss2:List aq) (ls:List Lt) (an:List An) (ff1:F) (fs1:List F) (Pf1:List (Nat×O)) (Pps1:List (List (Nat×O))) (ac:F) (gs:List F) (Pc:List (Nat×O)),aL A [(0,vf (.ptr (sw) (0))),(3,vf (ac)),(18,vf (.sl (ka) (0) 1 (lfs.length) none)),(19,vi lfs.length),(20,vi i)]∧aa Y Hq nq (cat [[(ka,.cells (csa) exa),(sw,.cells [.sl (ka) (0) 1 (lfs.length) none,ff1,iN (now+1)] true)],Pf1,cat Pps1,R,Pc])∧(ab X Y)∧(d9 Y (ss2++ps.drop i) lfs Pps1)∧(av 8 ff1 fs1 Pf1)∧(aA (bM Y) 8 (fl++ls) fs1)∧(fR (now+1) (ps.take i) ls an ss2)∧(av 6 ac gs Pc)∧(aA (dK Y) 6 an gs)∧(ls.length≤i∧an.length≤i∧ss2.length=i)) ⟨X,[],[],[],ff,fs,Pf,Pps,.sl0,[],[],az (ts:=[0,3,18,19,20]) kr,G,(hm0),(by rw[List.drop_zero];exact hps),(hf),(by rw[List.append_nil];exact hfl),(by rw[List.take_zero];exact .nil),(av.nil 6),(rfl),(⟨sm,sm,rfl⟩)⟩ (fun i A H n1 hi hI=>?_) (fun A H n1 hI=>?_)))))
 ·obtain⟨Y,ss2,ls,an,ff1,fs1,Pf1,Pps1,ac,gs,Pc,qA,G,hm0,hps,hf,hfl,hT,hac,hcg,hn1⟩:=hI
  refine To.keep _ ?_ qA.sub
  refine ag (ov 21 (lT i lfs.length) (aj ?_))
  obtain⟨s,hx0⟩:∃s,ps[i]?=some s:=⟨_,List.getElem?_eq_getElem om⟩
  have hi2:(ss2++ps.drop i)[i]?=some s:=by rw[List.getElem?_append_right om,hn1.2.2,Nat.sub_self,List.getElem?_drop,Nat.add_zero];exact hx0
  have hsm:=List.mem_of_getElem? hx0
  have hcl:=hcg.len
  obtain⟨qid,pid,Pp,Aq,Bq,hx,rfl,hpe,hback⟩:=hps.at hi2
  have hmb:ab Y Y:=ab.rfl
  have G:=aa.spl [_,_] [_,_] G
  have G:=aa.unp [_,_] [_,_,_] [_,_] G
  have G:=aa.inn [_] [_,_,_,_] G
  refine sq (aM (nx (aD 1 (ag (ov 22 (ix ka 0 1 lfs.length i) (ov 23 (am (id:=ka) (off:=0+i*1) (x:=.ptr qid 0) (G.at 1 rfl) (by rw[Nat.zero_add,Nat.mul_one];exact hall i _ hx)) (ae 1 (aP 3 (ov 27 (ld 1 (G.at 0 rfl) rfl) (aj (ar (nx (sq (dw [0,1,2,3,4,5,6,7,8,9,10,11,12,13] (sg [0,1,2] (sr (some 32) (qid) trivial (am (off:=0) (G.at 0 rfl) rfl) (sg [4,5,6] (sr (some 36) (sw) trivial (am (off:=2) (G.at 2 rfl) rfl) ?_))))))))))))))))))
  obtain⟨_,_,_,_,Pp2,m,G,J,⟨l2,a2,s2,⟨a,b,rfl,hls,han,hl1,ha1⟩,hS,hpe2⟩⟩:=(DC hpe (hok s hsm)).on [_,_] [_,_,_] G
  have hfl:=hfl.mono fun _ _ q=>bM.mono _ _ _ _ m q
  refine sf (some 37) (J _ _) (oR kr) (sg [9,10,11,12,13] (sx (nx (ag ?_))))
  have G:=aa.outAt [_,_] [] G
  have G:=aa.pck [_] [_,_,_,_] [_,_] G
  refine go 2 ?_
  obtain⟨_,W,_,_,Q6,m1,G,J,⟨rfl,ff2,fs2,Pf2,rfl,hf2,hfl2⟩⟩:=(kM (sw:=sw) (now:=now+1) (lf:=(.sl (ka) (0) 1 (lfs.length) none)) (ff:=ff1) (fl:=(fl++ls)) (ls:=l2) hf hfl hls (hsend s hsm l2 a2 s2 hS) (by rw[List.length_append];omega)).on [_] [_,_,_,_] G
  have hm0:=hm0.tr (m.tr m1)
  have hcg:=hcg.mono fun _ _ q=>dK.mono _ _ _ _ (m.tr m1) q
  have hmb:=hmb.tr (m.tr m1)
  have han:=han.mono m1
  have hpe2:=hpe2.mono m1
  refine ov 42 (J _ _) (aj ?_)
  have G:=aa.unp [_] [_,_,_,_] [_,_] G
  have G:=aa.inn [] [_,_,_,_,_] G
  obtain⟨gs2,hg2,hcg2⟩:=han.row
  refine rg (go 2 ?_)
  obtain⟨_,_,_,_,ho1066,G,J⟩:=b6 (sz:=6) (bytes:=64) (x:=b) (new:=gs2) [_,_,_,_,_] [] G (hac) (aO G.mono hg2) (han.lenA) om om
  refine ov 45 (J _ _) (ae 1 (rg ?_))
  have G:=aa.outAt [_] [_] G
  have G:=aa.swap [_] [_,_,_,_] G
  have G:=aa.pck [_,_] [_,_,_] [_,_] G
  have G:=aa.unspl [_,_] [_,_] G
  have G:=aa.outAt [] [_] G
  have G:=aa.inn [] [_,_,_,_] G
  have G:=aa.outAt [_] [] G
  have G:=aa.inn [] [_,_,_,_] G
  refine ov 46 (aN i 1) (aR 1 ?_)
  exact .inl ⟨rfl,W,_,_,_,_,_,_,_,_,_,_,az (ts:=[0,3,18,19,20]) kr,G,(hm0),(by rw[←EN hx0 hn1.2.2];exact hback _ hmb s2 Pp2 hpe2),(hf2),(by rw[←List.append_assoc];exact hfl2),(by rw[bU hx0];exact hT.snoc hS),(ho1066),(hcg.append hcg2),(⟨by rw[List.length_append];omega,by rw[List.length_append];omega,by rw[List.length_append,hn1.2.2];rfl⟩)⟩
 ·obtain⟨Y,ss2,ls,an,ff1,fs1,Pf1,Pps1,ac,gs,Pc,qA,G,hm0,hps,hf,hfl,hT,hac,hcg,hn1⟩:=hI
  refine To.keep _ ?_ qA.sub
  refine ag (ov 21 (lF lfs.length lfs.length) (aj ?_))
  rw[List.take_of_length_le om]at hT
  rw[List.drop_eq_nil_of_le om,List.append_nil]at hps
  obtain⟨W,m2,G,hg⟩:=av.frzS (hac) (hcg) om dK.mono [_,_,_,_] [] G
  have hm0:=hm0.tr m2
  have hps:=hps.mono m2
  have hfl:=hfl.mono fun _ _ q=>bM.mono _ _ _ _ m2 q
  refine sq (iF (xt 0 ?_))
  refine⟨sm,?_⟩
  show To Tryz.prog 38 [1,1,1,1] _ _ _ _
  refine ah 2 (rt ?_)
  have G:=aa.outAt [] [_] G
  exact⟨.inr rfl,_,kr,W,_,aa.fin (Ps:=[_,_,_,_]) G,hm0,ac,ls,an,ss2,rfl,hg,hT,om,om,_,lfs,ff1,fs1,_,Pf1,Pps1,rfl,hl,hps,hf,hfl⟩
theorem FY{n a:Nat}{r:List Rg}(hn:n≤1000)(ha:a≤1000)(hr:∀x∈r,dy x)(hl:r.length≤255):∀x∈delL n a r,cT x:=fun x hx=>by
 unfold delL at hx
 split at hx
 ·cases hx
 ·rw[List.mem_singleton]at hx
  subst hx
  exact⟨by show 1≤3;omega,by show 3≤3;omega,by show n≤_;omega,by show a≤_;omega,Nat.zero_le _,Nat.zero_le _,Nat.zero_le _,fun _ h=>(by cases h),Nat.zero_le _,hr,hl⟩
theorem sa{n:Nat}(hn:n≤1000):∀(l:List Nat) (rows:List (List Rg)),(∀a∈l,a≤1000)→(∀r∈rows,r.length≤255∧∀x∈r,dy x)→∀x∈outL n l rows,cT x
 |a::l,r::rows,ha,hr,x,hx=>by
  rcases List.mem_append.1 (show x∈delL n a r++outL n l rows from hx)with hx | hx
  ·exact FY hn (ha a sm) (hr r sm).2 (hr r sm).1 x hx
  ·exact sa hn l rows (fun a h=>ha a (by simp[h])) (fun r h=>hr r (by simp[h])) x hx
 |[],_,_,_,_,hx=>by cases hx
 |_::_,[],_,_,_,hx=>by cases hx
/-- what saving comes to -/
def ji(now B N M:Nat)(data:List Nat)(s:aq)(ls:List Lt)(s2:aq):Prop:=∃bl l,∃rows:List (List Rc),∃st2,bl.length=blkS B N M∧eQ data B N M bl∧l.Perm (s.kn++[s.n])∧rows.length=l.length∧rows.flatten.Perm (recU N 2 bl bl.length)∧
 ls=outL s.n l (rows.map (List.map (aY s.n (s.last+1) (now+9000) B N M)))∧ce s.st (ownL s.n l (rows.map (List.map (aY s.n (s.last+1) (now+9000) B N M)))) st2∧st2.lg≤s.st.lg+4000000∧s2={s with last:=s.last+1,st:=st2}
theorem ji.ls{now B N M:Nat}{data:List Nat}{s s2:aq}{ls:List Lt}(h:ji now B N M data s ls s2)(hS:b7 B N M)(hb:B8 data)(hnow:now≤1000)(hn:s.n≤1000)(hla:s.last≤1000)(hk:∀k∈s.kn,k≤1000):(∀x∈ls,cT x)∧ls.length≤s.kn.length+1:=by
 obtain⟨bl,l,rows,st2,h1,h2,h3,h4,h5,rfl,_⟩:=h
 refine⟨sa hn _ _ (fun a ha=>?_) (fun r hr=>?_),?_⟩
 ·rcases List.mem_append.1 (h3.subset ha)with ha | ha
  ·exact hk a ha
  ·rw[List.mem_singleton]at ha;omega
 ·obtain⟨q,hq,rfl⟩:=List.mem_map.1 hr
  have hsub:=List.sublist_flatten_of_mem hq
  have hl:=hsub.length_le
  have e2:=dq hS
  have e3:=fQ hS
  rw[h5.length_eq,mq h2 _ (Nat.le_refl _),h1,e2.2.1]at hl
  refine⟨by rw[List.length_map];omega,fun x hx=>?_⟩
  obtain⟨y,hy,rfl⟩:=List.mem_map.1 hx
  obtain⟨_,hok⟩:=pz (x:=2) hb hS om h1 h2
  have hy2:=h5.subset (hsub.subset hy)
  obtain⟨g1,g2,g3⟩:=hok y hy2
  obtain⟨qq,g4,_⟩:=kR bl.length (Nat.le_refl _) y hy2
  exact⟨⟨om,om,om,om,hS,om,om⟩,g3.1⟩
 ·have:=kW (n:=s.n) l (rows.map (List.map (aY s.n (s.last+1) (now+9000) B N M)))
  have e:=h3.length_eq
  rw[List.length_append,List.length_singleton]at e
  omega
/-- what a put comes to -/
def lY(now pe B N M:Nat)(data:List Nat)(s:aq)(X:Heap)(f:F)(e:Int)(ls:List Lt)(s2:aq):Prop:=(e=4∧ls=[]∧s2=s)∨(e=0∧c9 X f [⟨pe,0,0,s.n,s.last+1,[]⟩]∧ji now B N M data s ls s2)
theorem lY.mono{now pe B N M:Nat}{data:List Nat}{s s2:aq}{X Y:Heap}{f:F}{e:Int}{ls:List Lt}(hm:ab X Y)(h:lY now pe B N M data s X f e ls s2):lY now pe B N M data s Y f e ls s2:=h.imp id fun h=>⟨h.1,h.2.1.mono hm,h.2.2⟩
theorem CO{X:Heap}{n:Nat}{pid:Nat}{s:aq}{P0:List (Nat×O)}(hpe:bz X pid s P0){now B N M:Nat}{fd:F}{data:List Nat}(h:b7 B N M)(hfd:aB X fd data)(hB:data.length=B)(hcp:eO fd)(hb8:B8 data)(hnow:now≤1000)(hn:s.n≤1000)(hS:s.kn.length≤3)(hla:s.last≤1000)(hgu:bK s.st.gone s.n (s.last+1)=none)(hdis:∀x∈s.st.sy,bu x≠(s.n,s.last+1))(hsy:s.st.sy.length≤300)(hlg:s.st.lg≤400000000):al 77 [vf (.ptr pid 0),vi now,vf fd,vi N,vi M] X n P0 fun v X' P'=>∃ids g e,v=.tup [.agg ids,.f g,.f (.int .i64 e)]∧ids.length=2∧((e=4∧bz X' pid s P')∨(e=0∧ids=[iN s.n,iN (s.last+1)]∧∃ls s2,bS X' g ls∧ji now B N M data s ls s2∧bz X' pid s2 P')):=
 (Dq hpe h hfd hB hcp hb8 hnow hn hS hla hgu hdis hsy hlg).imp fun v X' P' q=>by
  rcases q with⟨h1,h2⟩|⟨g,bl,l,rows,st2,h1,h2,h3,h4,h5,h6,h7,h8,h9,h11⟩
  ·exact⟨_,_,_,h1,rfl,.inl ⟨rfl,h2⟩⟩
  ·exact⟨_,_,_,h1,rfl,.inr ⟨rfl,rfl,_,_,h7,⟨bl,l,rows,st2,h2,h3,h4,h5,h6,rfl,h8,h9,rfl⟩,h11⟩⟩
/-- a swarm's object, a peer of it laid open, and what flies -/
def gA(X:Heap)(sw now qid pid:Nat)(lf:F)(Pl:List (Nat×O))(fl:List Lt)(s:aq)(P:List (Nat×O)):Prop:=∃ff fs Pf Pp,P=cat [[(sw,.cells [lf,ff,iN now] true),(qid,.cells [.ptr pid 0,.bool false] true)],Pl,Pf,Pp]∧av 8 ff fs Pf∧aA (bM X) 8 fl fs∧bz X pid s Pp
theorem gA.mono{X Y:Heap}{sw now qid pid:Nat}{lf:F}{Pl:List (Nat×O)}{fl:List Lt}{s:aq}{P:List (Nat×O)}(hm:ab X Y)(h:gA X sw now qid pid lf Pl fl s P):gA Y sw now qid pid lf Pl fl s P:=by
 obtain⟨ff,fs,Pf,Pp,h1,h2,h3,h4⟩:=h
 exact⟨ff,fs,Pf,Pp,h1,h2,h3.mono fun _ _ q=>bM.mono _ _ _ _ hm q,h4.mono hm⟩
theorem c9.one{X:Heap}{k a b c d:Nat}(h:X k=some (.cells [iN a,iN b,iN 0,iN c,iN d,.sl0] true)):c9 X (.sl k 0 6 1 none) [⟨a,b,0,c,d,[]⟩]:=.inr ⟨k,0,none,_,true,rfl,h,sm,aA.one ⟨.sl0,rfl,rfl,fun _ h=>(by cases h),sm⟩ rfl⟩
theorem Bm{X:Heap}{n:Nat}{sw now qid pid:Nat}{lf:F}{Pl:List (Nat×O)}{fl:List Lt}{s:aq}{P0:List (Nat×O)}(hav:gA X sw now qid pid lf Pl fl s P0){pe ip ik:Nat}{B N M:Nat}{fd:F}{data:List Nat}(h:b7 B N M)(hfd:aB X fd data)(hB:data.length=B)(hcp:eO fd)(hb8:B8 data)(hnow:now≤1000)(hn:s.n≤1000)(hS:s.kn.length≤3)(hla:s.last≤1000)(hgu:bK s.st.gone s.n (s.last+1)=none)(hdis:∀x∈s.st.sy,bu x≠(s.n,s.last+1))(hsy:s.st.sy.length≤300)(hlg:s.st.lg≤400000000)(hkb:∀k∈s.kn,k≤1000)(hlen:fl.length+4≤500):al 60 [vf (.ptr (sw) (0)),vf (.ptr (qid) (0)),.u (.agg [.int .i64 1,iN pe,iN N,iN M,iN ip,iN ik,fd])] X n (P0) fun v X' P'=>∃f e ls s2,v=.tup [.f f,.f (.int .i64 e)]∧lY now pe B N M data s X' f e ls s2∧gA X' sw now qid pid lf Pl (fl++ls) s2 P':=by
 obtain⟨ff,fs,Pf,Pp,rfl,hf,hfl,hpe⟩:=hav
 refine al.of_to (Ps:=[[(sw,.cells [lf,ff,iN now] true),(qid,.cells [.ptr (pid) (0),.bool false] true)],Pl,Pf,Pp]) kr fun R H0 s0=>?_
 have hm0:ab X X:=ab.rfl
 refine ag ?_
 obtain⟨_,s1,J⟩:=ay s0 (.cells [.int .i64 1,iN pe,iN N,iN M,iN ip,iN ik,fd] true)
 refine ov 5 (J _ _ (vf (.ptr (n) (0)))) (ae 2 (aP 1 (ov 14 (ld 0 (s1.at 0 rfl) rfl) (aj (bk 0 (ag (ov 16 (eT 1 1) (ae 1 (iT (sq (dw [0,1,2,3,4,5,6,7,8,9,10,11,12,13,14,15,16,19,20,17,18,21,22] (sg [0,1,2] (sr (some 21) (qid) trivial (am (off:=0) (s1.at 2 rfl) rfl) (sg [4,5,6] (sr (some 25) (sw) trivial (am (off:=2) (s1.at 1 rfl) rfl) (sg [8] (sr (some 27) (n) trivial (am (off:=6) (s1.at 0 rfl) rfl) (sg [10] (sr (some 29) (n) trivial (am (off:=2) (s1.at 0 rfl) rfl) (sg [12] (sr (some 31) (n) trivial (am (off:=3) (s1.at 0 rfl) rfl) ?_)))))))))))))))))))))
 obtain⟨_,W,_,n1,Pp2,m,s3,J,⟨ids,g,e,rfl,hid2,hor⟩⟩:=(CO hpe h hfd hB hcp hb8 hnow hn hS hla hgu hdis hsy hlg).on [_,_,_] [_] s1
 have hm0:=hm0.tr m
 have hpe:=hpe.mono m
 have hfl:=hfl.mono fun _ _ q=>bM.mono _ _ _ _ m q
 refine sf (some 32) (J _ _) (oR kr) (sg [15,16] ?_)
 rcases hor with⟨rfl,hpe⟩|⟨rfl,rfl,ls,s2,hls,hsv,hpe⟩
 ·obtain⟨_,s4,J⟩:=ay s3 (.cells [.int .i64 0,.int .i64 0] true)
  refine sf (some 8) (J _ _ (vf (.ptr (n1) (0)))) ⟨ke (s3.at 0 rfl) (s4.at 1 rfl),ke (s3.at 0 rfl) (s4.at 1 rfl),ke (s3.at 0 rfl) (s4.at 1 rfl),ke (s3.at 1 rfl) (s4.at 2 rfl),ke (s3.at 2 rfl) (s4.at 3 rfl),trivial⟩ ?_
  obtain⟨_,s5,J⟩:=dv (sz:=2) (new:=ids) s4 0 rfl om rfl
  refine sf none (J _ _) (oR kr) (sg [17,18,21,22] (sx (nx (aP 1 (ov 37 (uT 4 0) (aj (iT (ah 3 (rt ?_)))))))))
  have s6:=aa.outAt [] [_,_,_] s5
  have s7:=aa.rid [_] [_,_,_,_] s6
  have s8:=aa.outAt [] [_,_] s7
  have s9:=aa.rid [_] [_,_,_,_] s8
  have s10:=aa.outAt [_] [] s9
  have s11:=aa.inn [] [_,_,_,_] s10
  have s12:=aa.outAt [_] [] s11
  have s13:=aa.inn [] [_,_,_,_] s12
  exact⟨.inr rfl,_,kr,W,_,aa.fin (Ps:=[_,_,_,_]) s13,hm0,.sl0,4,[],s,rfl,.inl ⟨rfl,rfl,rfl⟩,ff,fs,Pf,Pp2,rfl,hf,by rw[List.append_nil];exact hfl,hpe⟩
 ·obtain⟨hlo,hll⟩:=hsv.ls h hb8 hnow hn hla hkb
  obtain⟨_,s14,J⟩:=ay s3 (.cells [.int .i64 0,.int .i64 0] true)
  refine sf (some 8) (J _ _ (vf (.ptr (n1) (0)))) ⟨ke (s3.at 0 rfl) (s14.at 1 rfl),ke (s3.at 0 rfl) (s14.at 1 rfl),ke (s3.at 0 rfl) (s14.at 1 rfl),ke (s3.at 1 rfl) (s14.at 2 rfl),ke (s3.at 2 rfl) (s14.at 3 rfl),trivial⟩ ?_
  obtain⟨_,s15,J⟩:=aI (off:=0) (new:=[iN s.n,iN (s.last+1)]) (cs':=[iN s.n,iN (s.last+1)]) s14 0 rfl sm rfl
  refine sf none (J _ _) (oR kr) (sg [17,18,21,22] (sx (nx (aP 1 (ov 37 (uF 0 0) (aj (ar (nx (ag ?_)))))))))
  have s16:=aa.outAt [_,_] [_] s15
  have s17:=aa.swap [_] [_,_,_] s16
  have s18:=aa.pck [_,_] [_,_] [_,_] s17
  refine go 2 ?_
  obtain⟨_,_,_,n2,Q6,m1,s19,J,⟨rfl,ff2,fs2,Pf2,rfl,hf2,hfl2⟩⟩:=(kM (sw:=sw) (now:=now) (lf:=lf) (ff:=ff) (fl:=fl) (ls:=ls) hf hfl hls (hlo) om).on [_,_] [_,_] s18
  refine ov 41 (J _ _) (aj ?_)
  have s20:=aa.unp [_,_] [_,_] [_,_] s19
  have s21:=aa.inn [_] [_,_,_] s20
  refine ai 1 (ov 43 (ld 1 (s21.at 2 rfl) rfl) (ov 44 (la 0 2 [iN s.n,iN (s.last+1)] (s21.at 1 rfl)) (go 1 ?_)))
  obtain⟨W,_,s22,m2,f1,J⟩:=bj s21 (.cells [iN pe,.int .i64 0,.int .i64 0,iN s.n,iN (s.last+1),.sl0] true)
  have hm0:=hm0.tr (m1.tr m2)
  have hpe:=hpe.mono (m1.tr m2)
  have hfl2:=hfl2.mono fun _ _ q=>bM.mono _ _ _ _ m2 q
  refine ov 46 (J _ _ (vf (.sl (n2) (0) 6 (1) none))) (ax 2 ?_)
  have s23:=aa.outAt [_] [_,_] s22
  have s24:=aa.rid [_] [_,_,_,_] s23
  have s25:=aa.outAt [_] [_] s24
  have s26:=aa.rid [_] [_,_,_,_] s25
  have s27:=aa.outAt [_] [] s26
  have s28:=aa.inn [] [_,_,_,_] s27
  have s29:=aa.outAt [_] [] s28
  have s30:=aa.inn [] [_,_,_,_] s29
  exact⟨.inr rfl,_,kr,W,_,aa.fin (Ps:=[_,_,_,_]) s30,hm0,_,0,ls,s2,rfl,.inr ⟨rfl,c9.one f1,hsv⟩,ff2,fs2,Pf2,Pp2,rfl,hf2,hfl2,hpe⟩
theorem Bp{X:Heap}{n:Nat}{sw now qid pid:Nat}{lf:F}{Pl:List (Nat×O)}{fl:List Lt}{s:aq}{P0:List (Nat×O)}(hav:gA X sw now qid pid lf Pl fl s P0){pe en em ip ik:Nat}{ed:F}(hop0:s.op=none)(hnow:now≤1000)(hws:s.ws.length≤1000)(hwl:s.wl<1000000)(hS:s.kn.length≤12)(htg:s.tag≤1000000)(hsy:∀r∈s.st.sy,c5 r)(hlt:s.st.sy.length≤1000)(hro:eA ⟨s.tag+1,ip,ik,s.st.sy.filter (aW ip ik),[],[],[]⟩)(hsend:∀ls s2,gU now s ip ik ls s2→∀l∈ls,cT l)(hlen:fl.length+1≤500):al 60 [vf (.ptr (sw) (0)),vf (.ptr (qid) (0)),.u (.agg [.int .i64 2,iN pe,iN en,iN em,iN ip,iN ik,ed])] X n (P0) fun v X' P'=>v=.tup [.f .sl0,.f (.int .i64 0)]∧∃ls s2,gU now s ip ik ls s2∧ls.length≤1∧gA X' sw now qid pid lf Pl (fl++ls) s2 P':=by
 obtain⟨ff,fs,Pf,Pp,rfl,hf,hfl,hpe⟩:=hav
 refine al.of_to (Ps:=[[(sw,.cells [lf,ff,iN now] true),(qid,.cells [.ptr (pid) (0),.bool false] true)],Pl,Pf,Pp]) kr fun R H0 s0=>?_
 have hm0:ab X X:=ab.rfl
 refine ag ?_
 obtain⟨_,G,J⟩:=ay s0 (.cells [.int .i64 2,iN pe,iN en,iN em,iN ip,iN ik,ed] true)
 refine ov 5 (J _ _ (vf (.ptr (n) (0)))) (ae 2 (aP 1 (ov 14 (ld 0 (G.at 0 rfl) rfl) (aj (bk 0 (ag (ov 16 (eF 2 1) (ae 1 (iF (ag (ov 48 (eT 2 2) (ae 1 (iT (sq (dw [0,1,2,3,4,5,6,7,8,9,10,11,12,13,14,15] (sg [0,1,2] (sr (some 53) (qid) trivial (am (off:=0) (G.at 2 rfl) rfl) (sg [4,5,6] (sr (some 57) (sw) trivial (am (off:=2) (G.at 1 rfl) rfl) (sg [8] (sr (some 59) (n) trivial (aG (off:=4) (sz:=2) (c:=[iN ip,iN ik]) (G.at 0 rfl) sm rfl) ?_)))))))))))))))))))))
 obtain⟨_,_,_,_,Pp2,m,G,J,⟨tg,g,ls,s2,rfl,hls,hl1,hfs,hpe⟩⟩:=(Cl (ip:=ip) (ik:=ik) (now:=now) hpe hop0 hnow hws hwl hS htg hsy hlt hro).on [_,_,_] [_] G
 have hfl:=hfl.mono fun _ _ q=>bM.mono _ _ _ _ m q
 refine sf (some 60) (J _ _) (oR kr) (sg [11,12,13,14,15] (sx (nx (rg ?_))))
 have G:=aa.outAt [_] [_] G
 have G:=aa.swap [_] [_,_,_] G
 have G:=aa.pck [_,_] [_,_] [_,_] G
 refine go 2 ?_
 obtain⟨_,W,_,_,Q6,m1,G,J,⟨rfl,ff2,fs2,Pf2,rfl,hf2,hfl2⟩⟩:=(kM (sw:=sw) (now:=now) (lf:=lf) (ff:=ff) (fl:=fl) (ls:=ls) hf hfl hls (hsend ls s2 hfs) om).on [_,_] [_,_] G
 have hm0:=hm0.tr (m.tr m1)
 have hpe:=hpe.mono m1
 refine ov 65 (J _ _) (aj ?_)
 have G:=aa.unp [_,_] [_,_] [_,_] G
 have G:=aa.inn [_] [_,_,_] G
 refine ah 2 (rt ?_)
 have G:=aa.outAt [_] [_] G
 have G:=aa.rid [_] [_,_,_,_] G
 have G:=aa.outAt [_] [] G
 have G:=aa.inn [] [_,_,_,_] G
 have G:=aa.outAt [_] [] G
 have G:=aa.inn [] [_,_,_,_] G
 exact⟨.inr rfl,_,kr,W,_,aa.fin (Ps:=[_,_,_,_]) G,hm0,rfl,ls,s2,hfs,hl1,ff2,fs2,Pf2,Pp2,rfl,hf2,hfl2,hpe⟩
theorem Bz{X:Heap}{n:Nat}{sw now qid pid:Nat}{lf:F}{Pl:List (Nat×O)}{fl:List Lt}{s:aq}{P0:List (Nat×O)}(hav:gA X sw now qid pid lf Pl fl s P0){pe en em ip ik:Nat}{ed:F}(hnow:now≤1000)(h1:ip≤1000)(h2:1≤ik)(h3:ik≤2000)(hn:s.n≤1000)(hkb:∀k∈s.kn,k≤1000)(hnk:s.n∉s.kn)(hS:s.kn.length≤3)(hgu:bK s.st.gone ip ik=none)(hsy:s.st.sy.length<500)(hlg:s.st.lg≤400000000)(hlen:fl.length+4≤500):al 60 [vf (.ptr (sw) (0)),vf (.ptr (qid) (0)),.u (.agg [.int .i64 3,iN pe,iN en,iN em,iN ip,iN ik,ed])] X n (P0) fun v X' P'=>∃f,∃l:List Nat,∃st2,v=.tup [.f f,.f (.int .i64 0)]∧c9 X' f [⟨pe,0,0,ip,ik,[]⟩]∧l.Perm (s.kn++[s.n])∧ce s.st [.tb ip ik (now+9000)] st2∧st2.lg≤s.st.lg+1000∧gA X' sw now qid pid lf Pl (fl++outL s.n l (l.map fun _=>[Rg.tb ip ik (now+9000)])) {s with st:=st2} P':=by
 obtain⟨ff,fs,Pf,Pp,rfl,hf,hfl,hpe⟩:=hav
 refine al.of_to (Ps:=[[(sw,.cells [lf,ff,iN now] true),(qid,.cells [.ptr (pid) (0),.bool false] true)],Pl,Pf,Pp]) kr fun R H0 s0=>?_
 have hm0:ab X X:=ab.rfl
 refine ag ?_
 obtain⟨_,G,J⟩:=ay s0 (.cells [.int .i64 3,iN pe,iN en,iN em,iN ip,iN ik,ed] true)
 refine ov 5 (J _ _ (vf (.ptr (n) (0)))) (ae 2 (aP 1 (ov 14 (ld 0 (G.at 0 rfl) rfl) (aj (bk 0 (ag (ov 16 (eF 3 1) (ae 1 (iF (ag (ov 48 (eF 3 2) (ae 1 (iF (ag (ov 67 (eT 3 3) (ae 1 (iT (sq (dw [1,2,3,4,5,6,7,8,9,10,11,0,12] (sg [1,2,3] (sr (some 72) (qid) trivial (am (off:=0) (G.at 2 rfl) rfl) (sg [5,6,7] (sr (some 76) (sw) trivial (am (off:=2) (G.at 1 rfl) rfl) (sg [9] (sr (some 78) (n) trivial (aG (off:=4) (sz:=2) (c:=[iN ip,iN ik]) (G.at 0 rfl) sm rfl) ?_)))))))))))))))))))))))))
 obtain⟨_,_,_,_,Pp2,m,G,J,⟨g,l,st2,rfl,hlp,hls,hpu,hle,hpe⟩⟩:=(Bv (now:=now) (ip:=ip) (ik:=ik) hpe hnow h1 h2 h3 hnk hS hgu hsy hlg).on [_,_,_] [_] G
 have hfl:=hfl.mono fun _ _ q=>bM.mono _ _ _ _ m q
 refine sf (some 79) (J _ _) (oR kr) ?_
 have hll:=kW (n:=s.n) l (l.map fun _=>[Rg.tb ip ik (now+9000)])
 have hlp2:=hlp.length_eq
 rw[List.length_append,List.length_singleton]at hlp2
 have hlo:∀x∈outL s.n l (l.map fun _=>[Rg.tb ip ik (now+9000)]),cT x:=sa hn _ _ (fun a ha=>by
  rcases List.mem_append.1 (hlp.subset ha)with ha | ha
  ·exact hkb a ha
  ·rw[List.mem_singleton]at ha;omega) fun r hr=>by
  obtain⟨_,_,rfl⟩:=List.mem_map.1 hr
  exact⟨sm,fun x hx=>by rw[List.mem_singleton]at hx;subst hx;exact⟨om,om,om,om⟩⟩
 skip
 have G:=aa.outAt [_] [_] G
 have G:=aa.swap [_] [_,_,_] G
 have G:=aa.pck [_,_] [_,_] [_,_] G
 refine sg [0] ?_
 obtain⟨_,_,_,n1,Q6,m1,G,J,⟨rfl,ff2,fs2,Pf2,rfl,hf2,hfl2⟩⟩:=(kM (sw:=sw) (now:=now) (lf:=lf) (ff:=ff) (fl:=fl) (ls:=(outL s.n l (l.map fun _=>[Rg.tb ip ik (now+9000)]))) hf hfl hls (hlo) om).on [_,_] [_,_] G
 refine sf (some 80) (J _ _) (oR kr) (sx (nx ?_))
 have G:=aa.unp [_,_] [_,_] [_,_] G
 have G:=aa.inn [_] [_,_,_] G
 refine ai 1 (ov 82 (ld 1 (G.at 1 rfl) rfl) (go 1 (ov 84 (la 4 2 [iN ip,iN ik] (G.at 1 rfl)) (go 1 ?_))))
 obtain⟨W,_,G,m2,f1,J⟩:=bj G (.cells [iN pe,.int .i64 0,.int .i64 0,iN ip,iN ik,.sl0] true)
 have hm0:=hm0.tr (m.tr (m1.tr m2))
 have hpe:=hpe.mono (m1.tr m2)
 have hfl2:=hfl2.mono fun _ _ q=>bM.mono _ _ _ _ m2 q
 refine ov 86 (J _ _ (vf (.sl (n1) (0) 6 (1) none))) (ax 2 ?_)
 have G:=aa.outAt [_] [_] G
 have G:=aa.rid [_] [_,_,_,_] G
 have G:=aa.outAt [_] [] G
 have G:=aa.inn [] [_,_,_,_] G
 have G:=aa.outAt [_] [] G
 have G:=aa.inn [] [_,_,_,_] G
 exact⟨.inr rfl,_,kr,W,_,aa.fin (Ps:=[_,_,_,_]) G,hm0,_,l,st2,rfl,c9.one f1,hlp,hpu,hle,ff2,fs2,Pf2,Pp2,rfl,hf2,hfl2,hpe⟩
theorem AI{X:Heap}{n:Nat}{sw now qid pid:Nat}{lf:F}{Pl:List (Nat×O)}{fl:List Lt}{s:aq}{P0:List (Nat×O)}(hav:gA X sw now qid pid lf Pl fl s P0){pe en em ip ik q2:Nat}{ed:F}{lfs:List F}(hl:av 1 lf lfs Pl)(hx:lfs[en]?=some (.ptr q2 0))(hn:s.n≤1000)(hen:en≤1000)(hS:s.kn.length<1000)(hlt:en≠s.n→en∉s.kn→s.kn.length<3)(hlen:fl.length+1≤500):al 60 [vf (.ptr (sw) (0)),vf (.ptr (qid) (0)),.u (.agg [.int .i64 4,iN pe,iN en,iN em,iN ip,iN ik,ed])] X n (P0) fun v X' P'=>v=.tup [.f .sl0,.f (.int .i64 0)]∧gA X' sw now qid pid lf Pl (fl++(if en=s.n then[]else[⟨1,s.n,en,0,0,0,[],[]⟩])) {s with kn:=if en=s.n then s.kn else bp s.n s.kn en} P':=by
 obtain⟨ff,fs,Pf,Pp,rfl,hf,hfl,hpe⟩:=hav
 refine al.of_to (Ps:=[[(sw,.cells [lf,ff,iN now] true),(qid,.cells [.ptr (pid) (0),.bool false] true)],Pl,Pf,Pp]) kr fun R H0 s0=>?_
 have hm0:ab X X:=ab.rfl
 refine ag ?_
 obtain⟨_,G,J⟩:=ay s0 (.cells [.int .i64 4,iN pe,iN en,iN em,iN ip,iN ik,ed] true)
 refine ov 5 (J _ _ (vf (.ptr (n) (0)))) (ae 2 (aP 1 (ov 14 (ld 0 (G.at 0 rfl) rfl) (aj (bk 0 (ag (ov 16 (eF 4 1) (ae 1 (iF (ag (ov 48 (eF 4 2) (ae 1 (iF (ag (ov 67 (eF 4 3) (ae 1 (iF (ag (ov 88 (eT 4 4) (ae 1 (iT (aP 2 (ov 91 (ld 2 (G.at 0 rfl) rfl) ?_)))))))))))))))))))))))
 have G:=aa.outAt [_] [_] G
 have G:=aa.pck [_] [_,_,_] [_,_] G
 obtain⟨_,_,_,_,Q7,m,G,J,⟨rfl,rfl⟩⟩:=(jE (sw:=sw) (now:=now) (ff:=ff) (i:=en) hl hx).on [_] [_,_,_] G
 have hpe:=hpe.mono m
 refine ov 92 (J _ _) ?_
 have G:=aa.unp [_] [_,_,_] [_,_] G
 have G:=aa.inn [] [_,_,_,_] G
 refine ae 1 (ar (nx (dw [1,2,3,4,5,6,7,8,9,10,11,0,12] (sg [1,2,3] (sr (some 98) (qid) trivial (am (off:=0) (G.at 2 rfl) rfl) (sg [5,6,7] (sr (some 102) (sw) trivial (am (off:=2) (G.at 0 rfl) rfl) (sg [9] (sr (some 104) (n) trivial (am (off:=2) (G.at 1 rfl) rfl) ?_)))))))))
 obtain⟨_,_,_,_,Pp2,m1,G,J,⟨g,rfl,hls,hpe⟩⟩:=(DG (now:=now) (k:=en) hpe hS hlt).on [_,_,_] [_] G
 have hfl:=hfl.mono fun _ _ q=>bM.mono _ _ _ _ (m.tr m1) q
 refine sf (some 105) (J _ _) (oR kr) ?_
 have hlo:∀x∈(if en=s.n then[]else[(⟨1,s.n,en,0,0,0,[],[]⟩:Lt)]),cT x:=fun x hx=>by
  split at hx
  ·cases hx
  ·rw[List.mem_singleton]at hx
   subst hx
   exact⟨by show 1≤1;omega,by show 1≤3;omega,by show s.n≤_;omega,by show en≤_;omega,Nat.zero_le _,Nat.zero_le _,Nat.zero_le _,fun _ h=>(by cases h),Nat.zero_le _,fun _ h=>(by cases h),Nat.zero_le _⟩
 have hll:(if en=s.n then[]else[(⟨1,s.n,en,0,0,0,[],[]⟩:Lt)]).length≤1:=by split<;>simp
 have G:=aa.outAt [] [_,_] G
 have G:=aa.swap [_] [_,_,_] G
 have G:=aa.pck [_,_] [_,_] [_,_] G
 refine sg [0] ?_
 obtain⟨_,W,_,_,Q6,m2,G,J,⟨rfl,ff2,fs2,Pf2,rfl,hf2,hfl2⟩⟩:=(kM (sw:=sw) (now:=now) (lf:=lf) (ff:=ff) (fl:=fl) (ls:=(if en=s.n then[]else[(⟨1,s.n,en,0,0,0,[],[]⟩:Lt)])) hf hfl hls (hlo) om).on [_,_] [_,_] G
 have hm0:=hm0.tr (m.tr (m1.tr m2))
 have hpe:=hpe.mono m2
 refine sf (some 106) (J _ _) (oR kr) (sx (nx ?_))
 have G:=aa.unp [_,_] [_,_] [_,_] G
 have G:=aa.inn [_] [_,_,_] G
 refine ah 2 (rt ?_)
 have G:=aa.outAt [_] [_] G
 have G:=aa.rid [_] [_,_,_,_] G
 have G:=aa.outAt [_] [] G
 have G:=aa.inn [] [_,_,_,_] G
 have G:=aa.outAt [_] [] G
 have G:=aa.inn [] [_,_,_,_] G
 exact⟨.inr rfl,_,kr,W,_,aa.fin (Ps:=[_,_,_,_]) G,hm0,rfl,ff2,fs2,Pf2,Pp2,rfl,hf2,hfl2,hpe⟩
end Go.Proofs.YtkimkgbppegkhaaGreat.Cm
