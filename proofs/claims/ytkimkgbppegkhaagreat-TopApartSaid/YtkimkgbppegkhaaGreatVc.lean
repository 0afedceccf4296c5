/- The clean machine's walks of the law's own functions. · Plain laws of the swarm (1): all meet. No program is walked here. · Plain laws of the swarm (2): what is put spreads. No program is walked here. · Plain laws of the swarm (3): what records of one object tell. No program is walked here. -/
import Derived.Test.YtkimkgbppegkhaaGreatUh
set_option linter.unusedVariables false
set_option linter.unusedSimpArgs false
namespace Go.Proofs.YtkimkgbppegkhaaGreat.Cm
open Go Go.RowKit Go.Proofs.YtkimkgbppegkhaaGreat.Gf
set_option maxRecDepth 1000000
theorem av.atM{α:Type}{R:α→List F→Prop}{sz i:Nat}{a:F}{fs:List F}{M:List (Nat×O)}{l:List α}{x:α}(h:av sz a fs M)(hsz:0<sz)(hc:aA R sz l fs)(hx:l[i]?=some x):
 ∃k cs ex c,a=.sl k 0 sz l.length none∧M=[(k,.cells cs ex)]∧0+i*sz+sz≤cs.length∧(cs.drop (0+i*sz)).take sz=c∧c.length=sz∧R x c:=by
 have hil:=(List.getElem?_eq_some_iff.1 hx).1
 have hcl:=hc.len
 rcases h with⟨rfl,rfl,rfl⟩|⟨k,len,cs,ex,rfl,rfl,hl,rfl⟩
 ·have hc:0=l.length*sz:=hcl
  rcases Nat.mul_eq_zero.1 hc.symm with h | h<;>omega
 ·rw[List.length_take,Nat.min_eq_left hl]at hcl
  have:len=l.length:=Nat.eq_of_mul_eq_mul_right hsz hcl
  subst this
  obtain⟨c,g1,g2,g3⟩:=hc.at hx
  have hle:(i+1)*sz≤l.length*sz:=Nat.mul_le_mul_right _ hil
  rw[Nat.add_mul,Nat.one_mul]at hle
  exact⟨k,cs,ex,c,rfl,rfl,om,by rw[←g1,Nat.zero_add];exact kE hil,g2,g3⟩
theorem Ed{X:Heap}{n:Nat}{sw:Nat}{ps:List aq}{fl:List Lt}{now:Nat}{P0:List (Nat×O)}(hsw:bv X sw ps fl now P0){pe:Nat}{s:aq}(hfl0:fl=[])(hi:ps[pe]?=some s){ip ik:Nat}(hop0:s.op=none)(hnow:now≤1000)(hws:s.ws.length≤1000)(hwl:s.wl<1000000)(hS:s.kn.length≤12)(htg:s.tag≤1000000)(hsy:∀r∈s.st.sy,c5 r)(hlt:s.st.sy.length≤1000)(hro:eA ⟨s.tag+1,ip,ik,s.st.sy.filter (aW ip ik),[],[],[]⟩)(hsend:∀ls s2,gU now s ip ik ls s2→∀l∈ls,cT l){J:List aq→List Lt→List An→Prop}{mu:List aq→List Lt→Nat}{K:An→List aq→List Lt→Prop}(hc:ju now J mu)(hJ0:∀ls s2,gU now s ip ik ls s2→J (ps.set pe s2) ls []∧mu (ps.set pe s2) ls<1000)(hT:∀ps2 an,J ps2 [] an→0<ps2.length∧ps2.length≤100∧(∀s∈ps2,lr (now+1) s)∧(∀s∈ps2,∀ls a s2,jj (now+1) s ls a s2→∀l∈ls,cT l)∧∀ls a ps3,fR (now+1) ps2 ls a ps3→∃x,an++a=[x]∧K x ps3 ls):al 21 [vf (.ptr (sw) (0)),vi pe,.u (.agg [iN ip,iN ik])] X n (P0) fun v X' P'=>∃c x ps3 ls,v=.tup [.agg c,.f (.bool (decide (x.peer=pe)))]∧dK X' x c∧K x ps3 ls∧bv X' sw ps3 ls (now+1) P':=by
 subst hfl0
 refine al.of_to1 kr fun R H0 s0=>?_
 have hm0:ab X X:=ab.rfl
 refine ag ?_
 obtain⟨_,s1,G⟩:=ay s0 (.cells [iN ip,iN ik] true)
 refine ov 5 (G _ _ (vf (.ptr (n) (0)))) ?_
 obtain⟨_,s3,G⟩:=ay s1 (.cells [.int .i64 0,.int .i64 0,.int .i64 0,.int .i64 0,.int .i64 0,.sl0] true)
 refine ov 6 (G _ _ (vf (.ptr (n+1) (0)))) (ae 1 (ai 2 (ov 14 (la 0 2 [iN ip,iN ik] (s3.at 1 rfl)) (go 1 ?_))))
 obtain⟨_,W,_,_,P9,m,s4,G,⟨rfl,ls,s2,hfs,hl1,hsw⟩⟩:=(B9 (pe:=pe) (en:=0) (em:=0) (ip:=ip) (ik:=ik) (ed:=.sl0) hsw hi hop0 hnow hws hwl hS htg hsy hlt hro hsend sm).on [_] [_] s3
 have hm0:=hm0.tr m
 refine ov 16 (G _ _) (aQ (ah 1 (bk 0 (lp (aC.for (40) (fun i A Hq nq=>∃(Y:Heap) (P1:List (Nat×O)),aL A [(0,vf (.ptr (sw) (0))),(1,vi pe),(6,vf (.ptr (n+1) (0))),(8,vi i)]∧aa Y Hq nq (cat [[(n+1,.cells [.int .i64 0,.int .i64 0,.int .i64 0,.int .i64 0,.int .i64 0,.sl0] true),(n,.cells [iN ip,iN ik] true)],P1,R])∧(ab X Y)∧(bv Y sw (ps.set pe s2) ls now P1)∧(i=0)) ⟨W,P9,az (ts:=[0,1,6,8]) kr,s4,(hm0),(hsw),(rfl)⟩ (fun i A H n1 hi hI=>?_) (fun A H n1 hI=>?_))))))
 ·obtain⟨Y,P1,qA,s5,hm0,hsw,hi0⟩:=hI
  refine To.keep _ ?_ qA.sub
  refine aP 1 (ov 18 (lT i 40) (aj ?_))
  obtain⟨hJa,hmu⟩:=hJ0 ls s2 hfs
  refine aM (nx (aD 1 (ai 1 ?_)))
  obtain⟨_,_,_,_,Q1,m1,s6,G,⟨f1,gs,Pc,an,ps2,P2,rfl,rfl,hac,hcg,hJ2,hal,hsw⟩⟩:=(nX hsw hc hJa hmu).on [_] [_] s5
  refine ov 22 (G _ _) ?_
  have s7:=aa.unp [_] [_] [_,_] s6
  obtain⟨t1,t2,t3,t4,t5⟩:=hT ps2 an hJ2
  refine ae 1 (ai 2 ?_)
  obtain⟨_,W,_,_,P3,m2,s8,G,⟨f2,ls2,a2,ps3,rfl,han,hTk,hl1,ha1,hsw⟩⟩:=(BE hsw t1 t2 om t3 t4 (by simp;omega)).on [_] [_,_] s7
  have hm0:=hm0.tr (m1.tr m2)
  have hcg:=hcg.mono fun _ _ q=>dK.mono _ _ _ _ m2 q
  refine ov 26 (G _ _) ?_
  obtain⟨x,hx,hK⟩:=t5 ls2 a2 ps3 hTk
  have hxl:(an++a2).length=1:=by rw[hx];rfl
  obtain⟨gs2,hg2,hcg2⟩:=han.row
  have hcl:=hcg.len
  refine ae 5 (ai 2 ?_)
  obtain⟨_,_,_,_,ho1764,s9,G⟩:=b6 (sz:=6) (bytes:=64) (x:=f2) (new:=gs2) [_,_] [_] s8 (hac) (aO s8.mono hg2) (han.lenA) om om
  refine ov 31 (G _ _) ?_
  have hcx:=hcg.append hcg2
  refine ae 1 (ai 1 (ov 33 (lv ((an++a2).length) (ho1764.lenC om hcx)) (ov 34 (gT ((an++a2).length) 0 (by rw[hx];simp)) (aj (iT (sq (dw [0,1,2,3,4,5,6,14,7,8,9,10,11,12,13,15] ?_)))))))
  obtain⟨kf,csf,exf,cf,rfl,rfl,hf3,hf4,hcfl,hR⟩:=av.atM ho1764 om hcx (show(an++a2)[0]?=some x by rw[hx];rfl)
  obtain⟨g,rfl,hg⟩:=hR
  have hp0:csf[0+0*6]?=some (iN x.peer):=by have:=congrArg (fun l=>l[0]?) hf4;simpa[List.getElem?_take,List.getElem?_drop]using this
  have s10:=aa.inn [_] [_] s9
  refine sg [0] (ss (some 36) (bD (id:=kf) (off:=0) (sz:=6) (len:=(an++a2).length) (k:=0) om) (sr (some 37) (kf) trivial (aG (id:=kf) (off:=0+0*6) (sz:=6) (c:=[iN x.peer,iN x.tag,.int .i64 (x.err),iN x.ip,iN x.ik,g]) (s10.at 0 rfl) hf3 hf4) (sg [3] (sr (some 39) (kf) trivial (fC (l:=(an++a2).length)) (ss (some 40) (au (lA ((an++a2).length) (1) (by rw[hx];rfl))) (sg [6] ?_))))))
  obtain⟨_,s11,G⟩:=aI (off:=0) (new:=[iN x.peer,iN x.tag,.int .i64 (x.err),iN x.ip,iN x.ik,g]) (cs':=[iN x.peer,iN x.tag,.int .i64 (x.err),iN x.ip,iN x.ik,g]) s10 1 rfl sm rfl
  refine sf none (G _ _) (oR kr) (sg [7] (ss (some 43) (bD (id:=kf) (off:=0) (sz:=6) (len:=(an++a2).length) (k:=0) om) (sg [9] (sr (some 45) (kf) ⟨ke (s10.at 0 rfl) (s11.at 0 rfl),trivial⟩ (am (id:=kf) (off:=0+0*6) (x:=iN x.peer) (s11.at 0 rfl) hp0) (sg [11] ?_)))))
  by_cases hpp:x.peer=pe
  ·refine ss (some 47) (au (lA (x.peer) (pe) om)) (sg [13,15] (sx (nx (rt (.inr ⟨sm,?_⟩)))))
   exact⟨.inr rfl,_,cS (s11.at 1 rfl) kr kr,W,_,aa.fin1 s11,hm0,_,x,ps3,ls2,by rw[decide_eq_true hpp],⟨g,rfl,hg⟩,hK,hsw⟩
  ·refine ss (some 47) (au (jR (x.peer) (pe) om)) (sg [13,15] (sx (nx (rt (.inr ⟨sm,?_⟩)))))
   exact⟨.inr rfl,_,cS (s11.at 1 rfl) kr kr,W,_,aa.fin1 s11,hm0,_,x,ps3,ls2,by rw[decide_eq_false hpp],⟨g,rfl,hg⟩,hK,hsw⟩
 ·obtain⟨Y,P1,qA,_,hm0,hsw,hi0⟩:=hI
  refine To.keep _ ?_ qA.sub
  exact absurd hi0 om
theorem DF{X:Heap}{n:Nat}{sw:Nat}{ps:List aq}{fl:List Lt}{now:Nat}{P0:List (Nat×O)}(hsw:bv X sw ps fl now P0){J0:List aq→List Lt→Prop}{mu:List aq→List Lt→Nat}{Q:Nat}(hQ:Q≤4)(hc:ju now (fun ps fl an=>J0 ps fl∧an=[]) mu)(hmu:∀ps fl,J0 ps fl→fl.length≤20→mu ps fl<1000)(hst:∀ps fl i k,J0 ps fl→i<Q→k<Q→fl.length≤20→∃s s3,ps[i]?=some s∧ps[k]?=some s3∧s.n≤1000∧s.kn.length<1000∧(k≠s.n→k∉s.kn→s.kn.length<3)∧J0 (ps.set i {s with kn:=if k=s.n then s.kn else bp s.n s.kn k}) (fl++if k=s.n then[]else[⟨1,s.n,k,0,0,0,[],[]⟩]))(hfl0:fl=[])(hJ:J0 ps fl):al 34 [vf (.ptr (sw) (0)),vi Q] X n (P0) fun v X' P'=>v=.tup []∧∃ps2,J0 ps2 []∧bv X' sw ps2 [] now P':=by
 refine al.of_to1 kr fun R H0 s0=>?_
 have hm0:ab X X:=ab.rfl
 refine sq (ah 1 (bk 0 (lp (aC.for (Q) (fun i A Hq nq=>∃(Y:Heap) (ps1:List aq) (fl1:List Lt) (P1:List (Nat×O)),aL A [(0,vf (.ptr (sw) (0))),(1,vi Q),(4,vi i)]∧aa Y Hq nq (cat [[],P1,R])∧(ab X Y)∧(bv Y sw ps1 fl1 now P1)∧(J0 ps1 fl1)∧(fl1.length≤4*i)) ⟨X,ps,fl,P0,az (ts:=[0,1,4]) kr,s0,(hm0),(hsw),(hJ),(by rw[hfl0];simp)⟩ (fun i A H n1 hi hI=>?_) (fun A H n1 hI=>?_)))))
 ·obtain⟨Y,ps1,fl1,P1,qA,G,hm0,hsw,hJ,hfl1⟩:=hI
  refine To.keep _ ?_ qA.sub
  refine aP 2 (ov 8 (lT i Q) (aj (aM (nx (aD 1 (ah 1 (bk 2 (lp (aC.for (Q) (fun k A Hq nq=>∃(Y:Heap) (ps1:List aq) (fl1:List Lt) (P1:List (Nat×O)),aL A [(0,vf (.ptr (sw) (0))),(1,vi Q),(4,vi i),(5,vi k)]∧aa Y Hq nq (cat [[],P1,R])∧(ab X Y)∧(bv Y sw ps1 fl1 now P1)∧(J0 ps1 fl1)∧(fl1.length≤4*i+k)) ⟨Y,ps1,fl1,P1,az (ts:=[0,1,4,5]) kr,G,(hm0),(hsw),(hJ),om⟩ (fun k A H n2 hi hI=>?_) (fun A H n2 hI=>?_))))))))))
  ·obtain⟨Y,ps1,fl1,P1,qA,G,hm0,hsw,hJ,hfl1⟩:=hI
   refine To.keep _ ?_ qA.sub
   refine aP 2 (ov 13 (lT k Q) (aj ?_))
   obtain⟨s,s3,g1,g2,g3,g4,g5,g6⟩:=hst ps1 fl1 i k hJ om hi om
   have hll:(if k=s.n then[]else[(⟨1,s.n,k,0,0,0,[],[]⟩:Lt)]).length≤1:=by split<;>simp
   refine aM (nx (aD 3 (rg (go 4 ?_))))
   obtain⟨_,W,_,_,P2,m,G,K,⟨rfl,hsw⟩⟩:=(By (pe:=i) (en:=k) (em:=0) (ip:=0) (ik:=0) (ed:=.sl0) hsw g1 g2 g3 om g4 g5 om).on [_] [_] G
   have hm0:=hm0.tr m
   refine ov 20 (K _ _) (aj (rg (go 1 (ov 15 (aN k 1) (aR 1 ?_)))))
   exact .inl ⟨rfl,W,_,_,_,az (ts:=[0,1,4,5]) kr,G,(hm0),(hsw),(g6),(by rw[List.length_append];omega)⟩
  ·obtain⟨Y,ps1,fl1,P1,qA,G,hm0,hsw,hJ,hfl1⟩:=hI
   refine To.keep _ ?_ qA.sub
   refine aP 2 (ov 13 (lF Q Q) (aj (iF (xt 2 ?_))))
   refine⟨sm,?_⟩
   show To Tryz.prog 34 [1,1,0,0,1,0] _ _ _ _
   refine rg (go 1 (ov 10 (aN i 1) (aR 1 ?_)))
   exact .inl ⟨rfl,Y,_,_,_,az (ts:=[0,1,4]) kr,G,(hm0),(hsw),(hJ),om⟩
 ·obtain⟨Y,ps1,fl1,P1,qA,G,hm0,hsw,hJ,hfl1⟩:=hI
  refine To.keep _ ?_ qA.sub
  refine aP 2 (ov 8 (lF Q Q) (aj (iF (xt 0 ?_))))
  refine⟨sm,?_⟩
  show To Tryz.prog 34 [1] _ _ _ _
  refine rg (go 1 ?_)
  obtain⟨_,W,_,_,Q1,m1,G,K,⟨f1,gs,Pc,an,ps2,P2,rfl,rfl,hac,hcg,hJ2,hal,hsw⟩⟩:=(nX (J:=fun ps fl an=>J0 ps fl∧an=[]) hsw hc ⟨hJ,rfl⟩ (hmu _ _ hJ om)).on [_] [_] G
  have hm0:=hm0.tr m1
  refine ov 22 (K _ _) (dn ?_)
  have G:=aa.unp [_] [_] [_,_] G
  have G:=aa.rid [_,_] [_] G
  exact⟨.inl rfl,_,kr,W,_,aa.fin1 G,hm0,rfl,ps2,hJ2.1,hsw⟩
theorem BI{X:Heap}{n:Nat}{J0:List aq→List Lt→Prop}{mu:List aq→List Lt→Nat}{Q:Nat}(hQ:Q≤4)(hc:ju 0 (fun ps fl an=>J0 ps fl∧an=[]) mu)(hmu:∀ps fl,J0 ps fl→fl.length≤20→mu ps fl<1000)(hst:∀ps fl i k,J0 ps fl→i<Q→k<Q→fl.length≤20→∃s s3,ps[i]?=some s∧ps[k]?=some s3∧s.n≤1000∧s.kn.length<1000∧(k≠s.n→k∉s.kn→s.kn.length<3)∧J0 (ps.set i {s with kn:=if k=s.n then s.kn else bp s.n s.kn k}) (fl++if k=s.n then[]else[⟨1,s.n,k,0,0,0,[],[]⟩]))(h1:1≤Q)(hJ:J0 ((List.range Q).map gW) [])(ht:ap X n):bF 17 [vi Q] X n fun v X' M'=>∃sw ps2,v=vf (.ptr sw 0)∧J0 ps2 []∧bv X' sw ps2 [] 0 M':=by
 refine bF.of_to kr ?_
 have s0:aa X X n (cat [[]]):=aa.ini ht
 have hm0:ab X X:=ab.rfl
 refine ah 1 (ai 1 ?_)
 obtain⟨_,_,_,_,P1,m,G,J,⟨sw,rfl,hsw⟩⟩:=(D9 h1 hQ s0.topX).on s0
 refine ov 7 (J _ _) (ae 5 (aP 1 (ov 11 (uF 0 0) (ae 4 (ar (nx (ai 2 ?_)))))))
 obtain⟨_,W,_,_,P2,m1,G,J,⟨rfl,ps2,hJ2,hsw⟩⟩:=(DF (now:=0) hsw hQ hc hmu hst rfl hJ).on [_] [] G
 have hm0:=hm0.tr (m.tr m1)
 refine ov 18 (J _ _) (aj (ah 2 (rt ?_)))
 exact⟨.inr rfl,_,kr,W,_,(by simpa[cat]using aa.out0 G),hm0,sw,ps2,rfl,hJ2,hsw⟩
theorem Dm{X:Heap}{n:Nat}{sw:Nat}{ps:List aq}{fl:List Lt}{now:Nat}{P0:List (Nat×O)}(hsw:bv X sw ps fl now P0){Q:Nat}(h1:1≤Q)(hQ4:Q≤4)(hQ:ps.length=Q)(hkl:∀s∈ps,s.kn.length≤12):al 18 [vf (.ptr (sw) (0)),vi Q] X n (P0) fun v X' P'=>∃b,v=vf (.bool b)∧(b=true→∀(j:Nat) s,ps[j]?=some s→s.kn.length=Q-1)∧bv X' sw ps fl now P':=by
 refine al.of_to1 kr fun R H0 s0=>?_
 have hm0:ab X X:=ab.rfl
 refine ah 1 (sq (ah 1 (bk 0 (lp (aC.for (Q) (fun i A Hq nq=>∃(Y:Heap) (P1:List (Nat×O)),aL A [(0,vf (.ptr (sw) (0))),(1,vi Q),(5,vi i)]∧aa Y Hq nq (cat [[],P1,R])∧(ab X Y)∧(bv Y sw ps fl now P1)∧(∀j s,j<i→ps[j]?=some s→s.kn.length=Q-1)) ⟨X,P0,az (ts:=[0,1,5]) kr,s0,(hm0),(hsw),(fun j s h=>absurd h om)⟩ (fun i A H n1 hi hI=>?_) (fun A H n1 hI=>?_))))))
 ·obtain⟨Y,P1,qA,G,hm0,hsw,hal⟩:=hI
  refine To.keep _ ?_ qA.sub
  refine aP 2 (ov 8 (lT i Q) (aj ?_))
  obtain⟨s,hx⟩:∃s,ps[i]?=some s:=⟨_,List.getElem?_eq_getElem om⟩
  refine aM (nx (aD 1 (ai 2 ?_)))
  obtain⟨_,W,_,_,Q1,m,G,J,⟨a,l,P2,Pa,rfl,rfl,hsw,ha,hl⟩⟩:=(BL hsw hx (hkl s (List.mem_of_getElem? hx))).on [_] [_] G
  have hm0:=hm0.tr m
  refine ov 13 (J _ _) ?_
  have G:=aa.unp [_] [_] [_,_] G
  have hil:=dI l
  have hll:=hl.length_eq
  refine ov 14 (lv l.length (ha.lenA (l:=l.length) om om)) ?_
  have G:=aa.rid [_,_] [_] G
  by_cases hk:l.length=Q-1
  ·refine go 1 (ov 16 (sN Q 1) (ov 17 (uF l.length ((Q)-1)) (aj (ar (nx (rg (go 1 (ov 10 (aN i 1) (aR 1 ?_)))))))))
   exact .inl ⟨rfl,W,_,az (ts:=[0,1,5]) kr,G,(hm0),(hsw),(fun j s2 hj hs2=>by
    rcases Nat.lt_or_ge j i with h | h
    ·exact hal j s2 h hs2
    ·obtain rfl:j=i:=by omega
     rw[hx]at hs2;cases hs2;omega)⟩
  ·refine go 1 (ov 16 (sN Q 1) (ov 17 (uT l.length ((Q)-1)) (aj (iT (ah 1 (rt (.inr ⟨sm,?_⟩)))))))
   exact⟨.inr rfl,_,kr,W,_,aa.fin1 G,hm0,false,rfl,fun h=>(by cases h),hsw⟩
 ·obtain⟨Y,P1,qA,G,hm0,hsw,hal⟩:=hI
  refine To.keep _ ?_ qA.sub
  refine aP 2 (ov 8 (lF Q Q) (aj (iF (xt 0 ?_))))
  refine⟨sm,?_⟩
  show To Tryz.prog 18 [1,1] _ _ _ _
  refine ah 1 (rt ?_)
  exact⟨.inr rfl,_,kr,Y,_,aa.fin1 G,hm0,true,rfl,fun _ j s hj=>hal j s (by have:=(List.getElem?_eq_some_iff.1 hj).1;omega) hj,hsw⟩
theorem rn{X:Heap}{n:Nat}{sw:Nat}{ps:List aq}{fl:List Lt}{now:Nat}{P0:List (Nat×O)}(hsw:bv X sw ps fl now P0){pe:Nat}{s:aq}(hi:ps[pe]?=some s){B N M:Nat}{fd:F}{data:List Nat}(h:b7 B N M)(hfd:aB X fd data)(hB:data.length=B)(hcp:eO fd)(hb8:B8 data)(hnow:now≤1000)(hn:s.n≤1000)(hS:s.kn.length≤3)(hla:s.last≤1000)(hgu:bK s.st.gone s.n (s.last+1)=none)(hdis:∀x∈s.st.sy,bu x≠(s.n,s.last+1))(hsy:s.st.sy.length≤300)(hlg:s.st.lg≤400000000)(hkb:∀k∈s.kn,k≤1000)(hlen:fl.length+4≤500):al 19 [vf (.ptr (sw) (0)),vi pe,vf (fd),vi N,vi M] X n (P0) fun v X' P'=>∃ids ok ls s2,v=.tup [.agg ids,.f (.bool ok)]∧((ok=false∧ids=[.int .i64 0,.int .i64 0]∧ls=[]∧s2=s)∨(ok=true∧ids=[iN s.n,iN (s.last+1)]∧ji now B N M data s ls s2))∧bv X' sw (ps.set pe s2) (fl++ls) now P':=by
 refine al.of_to1 kr fun R H0 s0=>?_
 have hm0:ab X X:=ab.rfl
 refine ag ?_
 obtain⟨_,G,J⟩:=ay s0 (.cells [.int .i64 0,.int .i64 0] true)
 refine ov 10 (J _ _ (vf (.ptr (n) (0)))) (ae 1 (ai 6 ?_))
 obtain⟨_,W,_,_,P9,m,G,J,⟨f,e,ls,s2,rfl,hpr,hsw⟩⟩:=(Ci (pe:=pe) (ip:=0) (ik:=0) (B:=B) (N:=N) (M:=M) (fd:=fd) hsw hi h hfd hB hcp hb8 hnow hn hS hla hgu hdis hsy hlg hkb hlen).on [_] [_] G
 have hm0:=hm0.tr m
 refine ov 21 (J _ _) ?_
 rcases hpr with⟨rfl,rfl,rfl⟩|⟨rfl,han,hsv⟩
 ·refine ae 5 (aP 1 (ov 25 (uT 4 0) (ae 5 (iT (ai 1 ?_)))))
  obtain⟨_,G,J⟩:=aI (off:=0) (new:=[.int .i64 0,.int .i64 0]) (cs':=[.int .i64 0,.int .i64 0]) G 0 rfl sm rfl
  refine oe (J _ _) (ax 1 ?_)
  exact⟨.inr rfl,_,cS (G.at 0 rfl) kr kr,W,_,aa.fin1 G,hm0,[.int .i64 0,.int .i64 0],false,[],_,rfl,.inl ⟨rfl,rfl,rfl,rfl⟩,hsw⟩
 ·refine ae 5 (aP 1 (ov 25 (uF 0 0) (go 2 (ov 28 (lv 1 han.lenA) (ov 29 (uF 1 1) (ae 1 (ar (nx (ag ?_)))))))))
  obtain⟨idf,offf,capf,allf,exf,c,rfl,hf2,hf3,hf4,hR⟩:=han.at (i:=0) rfl
  obtain⟨g,rfl,hg⟩:=hR
  have hp0:(allf.drop (offf+0*6+3)).take 2=[iN s.n,iN (s.last+1)]:=by have:=congrArg (fun l=>(l.drop 3).take 2) hf4;simpa[List.drop_take,List.take_take,List.drop_drop]using this
  refine go 1 (ov 33 (ix idf offf 6 1 0) (go 1 (ov 35 (aG (id:=idf) (off:=offf+0*6+3) (sz:=2) (c:=[iN s.n,iN (s.last+1)]) (G.mono _ _ hf2) om hp0) ?_)))
  obtain⟨_,G,J⟩:=aI (off:=0) (new:=[iN s.n,iN (s.last+1)]) (cs':=[iN s.n,iN (s.last+1)]) G 0 rfl sm rfl
  refine oe (J _ _) (ax 1 ?_)
  exact⟨.inr rfl,_,cS (G.at 0 rfl) kr kr,W,_,aa.fin1 G,hm0,[iN s.n,iN (s.last+1)],true,ls,s2,rfl,.inr ⟨rfl,rfl,hsv⟩,hsw⟩
theorem jS{α:Type}{l:List α}{i j:Nat}{a b:α}(h:(l.set i a)[j]?=some b)(hi:i<l.length):(j=i∧b=a)∨(j≠i∧l[j]?=some b):=by
 rw[List.getElem?_set]at h
 split at h
 ·rename_i e
  subst e
  exact .inl ⟨rfl,(Option.some.inj h).symm⟩
 ·rename_i e
  exact .inr ⟨fun h=>e h.symm,h⟩
/-- a letter of those that meet -/
structure l7(Q:Nat)(l:Lt):Prop where
 fr:l.fr<Q
 to:l.to<Q
 ne:l.fr≠l.to
 tag:l.tag=0
 ip:l.ip=0
 ik:l.ik=0
 rs:l.rs=[]
 ps:∀k∈l.ps,k<Q
 pl:l.ps.length≤4
 kind:l.kind=1∨l.kind=2
structure co(Q:Nat)(ps:List aq)(fl:List Lt):Prop where
 len:ps.length=Q
 q1:1≤Q
 q4:Q≤4
 pe:∀i s,ps[i]?=some s→∃kn,s={gW i with kn:=kn}∧b5 Q i kn
 lt:∀l∈fl,l7 Q l
 fl:fl.length≤40
def dN:List Lt→Nat
 |[]=>0
 |l::r=>(if l.kind=1 then 2 else 1)+dN r
theorem uR:∀(a b:List Lt),dN (a++b)=dN a+dN b
 |[],b=>by simp[dN]
 |l::r,b=>by
  show(if l.kind=1 then 2 else 1)+dN (r++b)=(if l.kind=1 then 2 else 1)+dN r+dN b
  rw[uR r b];omega
theorem yC:∀(a:List Lt),dN a≤2*a.length
 |[]=>by simp[dN]
 |l::r=>by
  show(if l.kind=1 then 2 else 1)+dN r≤2*(r.length+1)
  have:=yC r
  split<;>omega
theorem l7.ok{Q:Nat}{l:Lt}(h:l7 Q l)(hQ:Q≤4):cT l:=by
 obtain⟨h1,h2,h3,h4,h5,h6,h7,h8,h9,_⟩:=h
 refine⟨om,om,om,om,om,om,om,fun x hx=>by have:=h8 x hx;omega,om,by rw[h7];exact fun _ h=>(by cases h),by rw[h7];exact Nat.zero_le _⟩
theorem co.set{Q:Nat}{ps:List aq}{fl fl2:List Lt}(h:co Q ps fl){i:Nat}{kn:List Nat}(hi:i<Q)(hk:b5 Q i kn)(hl:∀l∈fl2,l7 Q l)(hn:fl2.length≤40):co Q (ps.set i {gW i with kn:=kn}) fl2:=by
 obtain⟨h1,h2,h3,h4,h5,h6⟩:=h
 refine⟨by rw[List.length_set];exact h1,h2,h3,fun j s hj=>?_,hl,hn⟩
 rcases jS hj om with⟨rfl,rfl⟩|⟨_,hj⟩
 ·exact⟨kn,rfl,hk⟩
 ·exact h4 j s hj
theorem co.start{Q:Nat}(h1:1≤Q)(h4:Q≤4):co Q ((List.range Q).map gW) []:=by
 refine⟨sm,h1,h4,fun i s hi=>?_,fun _ h=>(by cases h),sm⟩
 rw[List.getElem?_map,Option.map_eq_some_iff]at hi
 obtain⟨j,hj,rfl⟩:=hi
 obtain⟨hl,rfl⟩:=List.getElem?_eq_some_iff.1 hj
 rw[List.length_range]at hl
 rw[List.getElem_range]
 exact⟨[],rfl,h4,hl,List.nodup_nil,sm,fun _ h=>(by cases h)⟩
theorem co.at{Q:Nat}{ps:List aq}{fl:List Lt}(h:co Q ps fl){i:Nat}(hi:i<Q):∃kn,ps[i]?=some {gW i with kn:=kn}∧b5 Q i kn:=by
 obtain⟨s,hs⟩:∃s,ps[i]?=some s:=⟨_,List.getElem?_eq_getElem (by rw[h.len];exact hi)⟩
 obtain⟨kn,rfl,hk⟩:=h.pe i s hs
 exact⟨kn,hs,hk⟩
theorem co.join{Q:Nat}{ps:List aq}{fl:List Lt}{i k:Nat}(h:co Q ps fl)(hi:i<Q)(hk:k<Q)(hl:fl.length≤20):∃s s3,ps[i]?=some s∧ps[k]?=some s3∧s.n≤1000∧s.kn.length<1000∧(k≠s.n→k∉s.kn→s.kn.length<3)∧co Q (ps.set i {s with kn:=if k=s.n then s.kn else bp s.n s.kn k}) (fl++if k=s.n then[]else[⟨1,s.n,k,0,0,0,[],[]⟩]):=by
 obtain⟨kn,g1,g2⟩:=h.at hi
 obtain⟨kn3,g3,_⟩:=h.at hk
 have hq:=h.q4
 refine⟨_,_,g1,g3,by show i≤1000;omega,by have:=g2.len;show kn.length<1000;omega,fun h1 h2=>g2.lt3 hk h1 h2,?_⟩
 show co Q (ps.set i {gW i with kn:=if k=i then kn else bp i kn k}) (fl++if k=i then[]else[⟨1,i,k,0,0,0,[],[]⟩])
 refine h.set hi ?_ (fun l hl=>?_) ?_
 ·split
  ·exact g2
  ·exact g2.add hk
 ·rcases List.mem_append.1 hl with hl | hl
  ·exact h.lt l hl
  ·split at hl
   ·cases hl
   ·rename_i hne
    rw[List.mem_singleton]at hl
    subst hl
    exact⟨hi,hk,fun e=>hne e.symm,rfl,rfl,rfl,rfl,fun _ h=>(by cases h),Nat.zero_le _,.inl rfl⟩
 ·rw[List.length_append]
  split<;>simp<;>omega
theorem co.calm{Q:Nat}:ju 0 (fun ps fl an=>co Q ps fl∧an=[]) (fun _ fl=>dN fl):=⟨fun ps lt rest an ⟨h,ha⟩=>by
 subst ha
 have hl:=h.lt lt sm
 have hl0:=hl
 obtain⟨h1,h2,h3,h4,h5,h6,h7,h8,h9,h11⟩:=hl
 obtain⟨kn,g1,g2⟩:=h.at h2
 have hfl:=h.fl
 rw[List.length_cons]at hfl
 have hq:=h.q4
 refine⟨_,Q,g1,⟨by decide,g2,h1,h3,rfl,fun _ h=>(by cases h),Nat.zero_le _,Nat.zero_le _,Nat.zero_le _,?_⟩,om,fun ls a s2 hS=>?_⟩
 ·rcases h11 with h11 | h11
  ·exact .inl h11
  ·exact .inr (.inl ⟨h11,h8,om,.inl ⟨rfl,rfl⟩⟩)
 ·have hrest:∀l∈rest,l7 Q l:=fun l hl=>h.lt l (by simp[hl])
  have hadd:=g2.add h1
  rcases hS with⟨k1,rfl,⟨l,hp,rfl⟩,rfl⟩|⟨k1,⟨_,rfl,rfl,rfl⟩|⟨o,ho,_⟩⟩|⟨k1,_⟩
  ·have hlm:∀k∈l,k<Q:=fun k hk=>hadd.lt k (hp.subset hk)
   have hkl:l7 Q ⟨2,lt.to,lt.fr,lt.tag,lt.ip,lt.ik,l.filter fun a=> !decide (a=lt.fr),fu (gW lt.to).st lt.ip lt.ik⟩:=⟨h2,h1,fun e=>h3 e.symm,h4,h5,h6,by rw[h5,h6];rfl,fun k hk=>hlm k (List.mem_filter.1 hk).1,by
    have e1:=List.length_filter_le (fun a=> !decide (a=lt.fr)) l
    have e2:=hp.length_eq
    have e3:=hadd.len
    show(l.filter fun a=> !decide (a=lt.fr)).length≤4
    have e2:l.length=(bp lt.to kn lt.fr).length:=e2
    omega,.inr rfl⟩
   refine⟨fun x hx=>?_,⟨h.set h2 hadd (fun x hx=>?_) ?_,rfl⟩,?_⟩
   ·rw[List.mem_singleton]at hx
    subst hx
    exact hkl.ok hq
   ·rcases List.mem_append.1 hx with hx | hx
    ·exact hrest x hx
    ·rw[List.mem_singleton]at hx
     subst hx
     exact hkl
   ·rw[List.length_append,List.length_singleton];omega
   ·rw[uR]
    show dN rest+(1+0)<(if lt.kind=1 then 2 else 1)+dN rest
    rw[if_pos k1];omega
  ·refine⟨fun x hx=>(by cases hx),⟨?_,rfl⟩,?_⟩
   ·rw[List.append_nil]
    exact h.set h2 (hadd.adds h8) hrest om
   ·rw[List.append_nil]
    show dN rest<(if lt.kind=1 then 2 else 1)+dN rest
    split<;>omega
  ·cases ho
  ·omega⟩
set_option maxRecDepth 100000
/-- a peer that knows all, and does nothing of its own -/
structure Qu(T Q i:Nat)(s:aq):Prop where
 n:s.n=i
 kn:b5 Q i s.kn
 full:∀k,k<Q→k≠i→k∈s.kn
 op:s.op=none
 ws:s.ws=[]
 last:s.last≤10
 tag:s.tag≤T
 wl:s.wl≤4*T
theorem Qu.add{T Q i k:Nat}{s:aq}(h:Qu T Q i s)(hk:k<Q):bp s.n s.kn k=s.kn:=by
 unfold bp
 rw[if_pos]
 by_cases e:k=i
 ·exact .inl (e.trans h.n.symm)
 ·exact .inr (h.full k hk e)
theorem Qu.adds{T Q i:Nat}{s:aq}(h:Qu T Q i s):∀{l:List Nat},(∀k∈l,k<Q)→l.foldl (bp s.n) s.kn=s.kn
 |[],_=>rfl
 |k::l,hl=>by
  rw[List.foldl_cons,h.add (hl k sm)]
  exact h.adds fun a ha=>hl a (by simp[ha])
def fV(ps:List aq):List Rg:=(ps.map fun s=>s.st.sy).flatten
def rsAll(fl:List Lt):List Rg:=(fl.map fun l=>l.rs).flatten
theorem um(a b:List Lt):rsAll (a++b)=rsAll a++rsAll b:=by simp[rsAll]
theorem kP:∀{ps:List aq} {i:Nat} {s:aq},ps[i]?=some s→∃R,(fV ps).Perm (s.st.sy++R)∧∀s2,(fV (ps.set i s2)).Perm (s2.st.sy++R)
 |p::ps,0,s,h=>by
  simp at h
  subst h
  exact⟨fV ps,List.Perm.refl _,fun s2=>List.Perm.refl _⟩
 |p::ps,i+1,s,h=>by
  obtain⟨R,h1,h2⟩:=kP (ps:=ps) (i:=i) (s:=s) (by simpa using h)
  have e:∀(a b:List Rg),(p.st.sy++(a++b)).Perm (a++(p.st.sy++b)):=fun a b=>by
   rw[←List.append_assoc,←List.append_assoc]
   exact List.perm_append_comm.append_right _
  exact⟨p.st.sy++R,(List.Perm.append_left p.st.sy h1).trans (e _ _),fun s2=>(List.Perm.append_left p.st.sy (h2 s2)).trans (e _ _)⟩
 |[],_,_,h=>by simp at h
structure dp(RS:List Rg):Prop where
 sy:∀r∈RS,c5 r
 key:(RS.map bA).Nodup
 len:RS.length≤400
structure dA(Q:Nat)(RS:List Rg)(Z:Nat)(ps:List aq)(fl:List Lt):Prop where
 len:ps.length=Q
 q1:1≤Q
 q4:Q≤4
 pe:∀i s,ps[i]?=some s→Qu 0 Q i s∧s.st.gone=[]∧s.st.lg+30000*fl.length≤Z
 lt:∀l∈fl,l.kind=3∧l.fr<Q∧l.to<Q∧l.fr≠l.to∧l.rs.length≤255
 all:(fV ps++rsAll fl).Perm RS
 fl:fl.length≤20
theorem dA.at{Q Z:Nat}{RS:List Rg}{ps:List aq}{fl:List Lt}(h:dA Q RS Z ps fl){i:Nat}(hi:i<Q):∃s,ps[i]?=some s∧Qu 0 Q i s∧s.st.gone=[]∧s.st.lg+30000*fl.length≤Z:=by
 obtain⟨s,hs⟩:∃s,ps[i]?=some s:=⟨_,List.getElem?_eq_getElem (by rw[h.len];exact hi)⟩
 exact⟨s,hs,h.pe i s hs⟩
theorem dp.sub{RS A B:List Rg}(h:dp RS)(hp:RS.Perm (A++B)):dp A:=by
 refine⟨fun r hr=>h.sy r (hp.symm.subset (List.mem_append_left _ hr)),?_,?_⟩
 ·have:=(hp.map bA).nodup_iff.1 h.key
  rw[List.map_append,List.nodup_append]at this
  exact this.1
 ·have:=hp.length_eq
  have:=h.len
  rw[List.length_append]at*
  omega
theorem dp.addP{RS A B C:List Rg}{st:bi}(h:dp RS)(hp:RS.Perm (A++(B++C)))(hA:st.sy=A)(hg:st.gone=[]):qk st B:=by
 rw[←List.append_assoc]at hp
 have h2:=h.sub hp
 have hk:=h2.key
 rw[List.map_append,List.nodup_append]at hk
 refine⟨fun r hr=>h2.sy r (List.mem_append_right _ hr),fun r _=>by rw[hg];rfl,hk.2.1,fun r hr x hx=>?_,?_⟩
 ·rw[hA]at hx
  exact hk.2.2 _ (List.mem_map.2 ⟨x,hx,rfl⟩) _ (List.mem_map.2 ⟨r,hr,rfl⟩)
 ·have:=h2.len
  rw[List.length_append]at this
  rw[hA];omega
theorem zD{α:Type}(A R B C:List α):((A++R)++(B++C)).Perm (A++(B++(R++C))):=by
 rw[List.append_assoc]
 refine List.Perm.append_left _ ?_
 rw[←List.append_assoc,←List.append_assoc]
 exact List.perm_append_comm.append_right _
theorem dA.calm{Q Z now:Nat}{RS:List Rg}(hR:dp RS)(hnow:now≤1000)(hZ:Z≤100000000):ju now (fun ps fl an=>dA Q RS Z ps fl∧an=[]) (fun _ fl=>fl.length):=⟨fun ps lt rest an ⟨h,ha⟩=>by
 subst ha
 obtain⟨k3,h1,h2,h3,h4⟩:=h.lt lt sm
 obtain⟨s,hs,hq,hg,hlg⟩:=h.at h2
 have hfl:=h.fl
 rw[List.length_cons]at hfl hlg
 have hQ:=h.q4
 obtain⟨R,r1,r2⟩:=kP hs
 have hall:RS.Perm (s.st.sy++(lt.rs++(R++rsAll rest))):=h.all.symm.trans ((r1.append_right _).trans (zD _ _ _ _))
 have hadd:=hR.addP hall rfl hg
 have hA:=hR.sub hall
 refine⟨s,Q,hs,⟨hnow,by rw[hq.n];exact hq.kn,h1,by rw[hq.n];exact h3,hq.n.symm,hA.sy,Nat.le_trans hA.len om,om,by rw[hq.ws];exact Nat.zero_le _,.inr (.inr ⟨k3,fun r hr=>(hadd.sy r hr).ok,hadd.ok,om⟩)⟩,om,fun ls a s2 hS=>?_⟩
 rcases hS with⟨k1,_⟩|⟨k1,_⟩|⟨_,rfl,rfl,st2,g1,g2,rfl⟩
 ·omega
 ·omega
 ·obtain⟨g3,g4⟩:=rC g1 hadd.sy
  refine⟨fun x hx=>(by cases hx),⟨?_,rfl⟩,?_⟩
  ·rw[List.append_nil]
   refine⟨by rw[List.length_set];exact h.len,h.q1,h.q4,fun j s' hj=>?_,fun l hl=>h.lt l (by simp[hl]),?_,om⟩
   ·rcases jS hj (by rw[h.len];exact h2)with⟨rfl,rfl⟩|⟨_,hj⟩
    ·refine⟨⟨hq.n,?_,?_,hq.op,hq.ws,hq.last,hq.tag,hq.wl⟩,g3.trans hg,?_⟩
     ·show b5 Q lt.to (bp s.n s.kn lt.fr);rw[hq.add h1];exact hq.kn
     ·show∀k,k<Q→k≠lt.to→k∈bp s.n s.kn lt.fr;rw[hq.add h1];exact hq.full
     ·show st2.lg+_≤_;omega
    ·obtain⟨q1,q2,q3⟩:=h.pe j s' hj
     rw[List.length_cons]at q3
     exact⟨q1,q2,om⟩
   ·refine List.Perm.trans ?_ hall.symm
    refine((r2 _).append_right _).trans ?_
    show((st2.sy++R)++rsAll rest).Perm _
    rw[List.append_assoc,←List.append_assoc s.st.sy]
    exact(g4.trans List.perm_append_comm).append_right _
  ·rw[List.append_nil];simp⟩
theorem yr{n:Nat}:∀(l:List Nat) (rows:List (List Rg)),l.length=rows.length→(ownL n l rows++rsAll (outL n l rows)).Perm rows.flatten
 |[],[],_=>List.Perm.refl _
 |a::l,r::rows,h=>by
  have ih:=yr (n:=n) l rows (by simpa using h)
  show(((if a=n then r else[])++ownL n l rows)++rsAll (delL n a r++outL n l rows)).Perm (r++rows.flatten)
  rw[um]
  have e:((if a=n then r else[])++rsAll (delL n a r)).Perm r:=by
   unfold delL
   by_cases ha:a=n
   ·simp[ha,rsAll]
   ·by_cases hr:r=[]
    ·simp[ha,hr,rsAll]
    ·simp[ha,hr,rsAll]
  refine((zD _ _ _ _).trans ?_).trans ((e.append_right _).trans (ih.append_left _))
  rw[←List.append_assoc]
 |[],_::_,h=>by simp at h
 |_::_,[],h=>by simp at h
theorem x_{n:Nat}:∀(l:List Nat) (rows:List (List Rg)) (x:Lt),x∈outL n l rows→x.kind=3∧x.fr=n∧x.to∈l∧x.to≠n∧x.rs∈rows
 |a::l,r::rows,x,hx=>by
  rcases List.mem_append.1 (show x∈delL n a r++outL n l rows from hx)with hx | hx
  ·unfold delL at hx
   split at hx
   ·cases hx
   ·rename_i hq
    rw[List.mem_singleton]at hx
    subst hx
    exact⟨rfl,rfl,sm,fun e=>hq (.inr e),sm⟩
  ·obtain⟨h1,h2,h3,h4,h5⟩:=x_ l rows x hx
   exact⟨h1,h2,by simp[h3],h4,by simp[h5]⟩
 |[],_,x,hx=>by cases hx
 |_::_,[],x,hx=>by cases hx
theorem De{Q:Nat}{l:List Nat}(hn:l.Nodup)(hs:∀k∈l,k<Q)(hl:l.length=Q){k:Nat}(hk:k<Q):k∈l:=Classical.byContradiction fun h=>by
 have h1:(k::l).Nodup:=List.nodup_cons.2 ⟨h,hn⟩
 have h2:=h1.length_le_of_subset (l₂:=List.range Q) fun a ha=>by
  rcases List.mem_cons.1 ha with rfl | ha
  ·exact List.mem_range.2 hk
  ·exact List.mem_range.2 (hs a ha)
 rw[List.length_cons,List.length_range]at h2
 omega
theorem co.quiet{Q:Nat}{ps:List aq}(h:co Q ps [])(hall:∀(j:Nat) s,ps[j]?=some s→s.kn.length=Q-1):dA Q [] 0 ps []:=by
 refine⟨h.len,h.q1,h.q4,fun i s hs=>?_,fun _ h=>(by cases h),?_,sm⟩
 ·obtain⟨kn,rfl,hk⟩:=h.pe i s hs
  have hl:=hall i _ hs
  refine⟨⟨rfl,hk,fun k hkQ hne=>?_,rfl,rfl,Nat.zero_le _,Nat.zero_le _,Nat.zero_le _⟩,rfl,by simp[gW]⟩
  have hl:kn.length=Q-1:=hl
  have:=De (l:=i::kn) (List.nodup_cons.2 ⟨hk.self,hk.nod⟩) (fun a ha=>(List.mem_cons.1 ha).elim (fun e=>e▸hk.nlt) (hk.lt a)) (by rw[List.length_cons];have:=h.q1;omega) hkQ
  exact(List.mem_cons.1 this).resolve_left hne
 ·have:∀s∈ps,s.st.sy=[]:=fun s hs=>by
   obtain⟨i,hi,rfl⟩:=List.getElem_of_mem hs
   obtain⟨kn,e,_⟩:=h.pe i _ (List.getElem?_eq_getElem hi)
   rw[e];rfl
  have e:fV ps=[]:=by
   unfold fV
   rw[List.flatten_eq_nil_iff]
   intro l hl
   obtain⟨s,hs,rfl⟩:=List.mem_map.1 hl
   exact this s hs
  rw[e]
  exact List.Perm.refl _
theorem dA.put{Q Z now B N M i:Nat}{RS:List Rg}{ps:List aq}{fl ls:List Lt}{s s2:aq}{data:List Nat}(h:dA Q RS Z ps fl)(hs:ps[i]?=some s)(hS:b7 B N M)(hb:B8 data)(hnow:now≤1000)(hsv:ji now B N M data s ls s2)(hR:dp RS)(hRl:RS.length≤200)(hid:∀r∈RS,bu r≠(s.n,s.last+1))(hfl:fl.length≤10)(hla:s.last≤5):
 ∃bl,bl.length=blkS B N M∧eQ data B N M bl∧dp (RS++(recU N 2 bl bl.length).map (aY s.n (s.last+1) (now+9000) B N M))∧((recU N 2 bl bl.length).map (aY s.n (s.last+1) (now+9000) B N M)).length≤200∧dA Q (RS++(recU N 2 bl bl.length).map (aY s.n (s.last+1) (now+9000) B N M)) (Z+5000000) (ps.set i s2) (fl++ls)∧Qu 0 Q i s2:=by
 obtain⟨bl,l,rows,st2,h1,h2,h3,h4,h5,rfl,h6,h7,rfl⟩:=hsv
 obtain⟨hq,hg,hlg⟩:=h.pe i s hs
 have hi:i<Q:=by rw[←h.len];exact(List.getElem?_eq_some_iff.1 hs).1
 have hQ:=h.q4
 have hn:=hq.n
 obtain⟨R,r1,r2⟩:=kP hs
 have hsub:RS.Perm (s.st.sy++(R++rsAll fl)):=h.all.symm.trans ((r1.append_right _).trans (List.append_assoc _ _ _▸List.Perm.refl _))
 have hsyl:s.st.sy.length≤200:=by have:=hsub.length_eq;rw[List.length_append]at this;omega
 obtain⟨o1,o2⟩:=xU (st:=s.st) (n:=s.n) (ip:=s.n) (ik:=s.last+1) (u:=now+9000) (l:=l) hb hS h1 h2 h5 om om om om (by rw[hg];rfl) (fun x hx=>hid x (hsub.symm.subset (List.mem_append_left _ hx))) om
 have hown:=rE (n:=s.n) l (rows.map (List.map (aY s.n (s.last+1) (now+9000) B N M)))
 rw[←List.map_flatten]at hown
 have hsyO:∀r∈ownL s.n l (rows.map (List.map (aY s.n (s.last+1) (now+9000) B N M))),c5 r:=fun r hr=>by
  obtain⟨q,hq1,rfl⟩:=List.mem_map.1 (hown.subset hr)
  exact o1 q hq1
 obtain⟨p1,p2⟩:=rC h6 hsyO
 have hR2:((recU N 2 bl bl.length).map (aY s.n (s.last+1) (now+9000) B N M)).length≤180:=by
  have e2:=dq hS
  have e3:=fQ hS
  rw[List.length_map,mq h2 _ (Nat.le_refl _),h1,e2.2.1];omega
 have hRsF:dp (RS++(recU N 2 bl bl.length).map (aY s.n (s.last+1) (now+9000) B N M)):=by
  refine⟨fun r hr=>?_,?_,by rw[List.length_append];omega⟩
  ·rcases List.mem_append.1 hr with hr | hr
   ·exact hR.sy r hr
   ·obtain⟨q,hq1,rfl⟩:=List.mem_map.1 hr
    exact o1 q (h5.symm.subset hq1)
  ·rw[List.map_append,List.nodup_append]
   refine⟨hR.key,?_,fun a ha b hb2 e=>?_⟩
   ·rw[List.map_map]
    refine List.pairwise_map.2 ((List.pairwise_map.1 (rd (N:=N) (x:=2) (bl:=bl) bl.length (Nat.le_refl _))).imp fun h e=>h ?_)
    have e:(s.n,s.last+1,_,_)=(s.n,s.last+1,_,_):=e
    injection e with _ e
    injection e with _ e
   ·obtain⟨r,hr,rfl⟩:=List.mem_map.1 ha
    obtain⟨r',hr',rfl⟩:=List.mem_map.1 hb2
    obtain⟨q,_,rfl⟩:=List.mem_map.1 hr'
    refine hid r hr ?_
    have e:bA r=(s.n,s.last+1,q.b,q.e):=e
    cases r with
    |sy a b c d e1 f g h i=>have e:(a,b,g,h)=(s.n,s.last+1,q.b,q.e):=e;injection e with e1 e;injection e with e2 e;rw[e1,e2];rfl
    |tb a b c=>have e:(a,b,0,0)=(s.n,s.last+1,q.b,q.e):=e;injection e with e1 e;injection e with e2 e;rw[e1,e2];rfl
 have hol:=kW (n:=s.n) l (rows.map (List.map (aY s.n (s.last+1) (now+9000) B N M)))
 have hll:=h3.length_eq
 rw[List.length_append,List.length_singleton]at hll
 have hkl:=hq.kn.len
 have hQu:Qu 0 Q i {s with last:=s.last+1,st:=st2}:=⟨hn,hq.kn,hq.full,hq.op,hq.ws,by show s.last+1≤10;omega,hq.tag,hq.wl⟩
 refine⟨bl,h1,h2,hRsF,om,⟨by rw[List.length_set];exact h.len,h.q1,h.q4,fun j s' hj=>?_,fun x hx=>?_,?_,by rw[List.length_append];omega⟩,hQu⟩
 ·rcases jS hj (by rw[h.len];exact hi)with⟨rfl,rfl⟩|⟨_,hj⟩
  ·exact⟨hQu,p1.trans hg,by show st2.lg+_≤_;rw[List.length_append];omega⟩
  ·obtain⟨q1,q2,q3⟩:=h.pe j s' hj
   exact⟨q1,q2,by rw[List.length_append];omega⟩
 ·rcases List.mem_append.1 hx with hx | hx
  ·exact h.lt x hx
  ·obtain⟨x1,x2,x3,x4,x5⟩:=x_ _ _ x hx
   have hto:x.to<Q:=by
    rcases List.mem_append.1 (h3.subset x3)with hm | hm
    ·exact hq.kn.lt _ hm
    ·rw[List.mem_singleton]at hm;omega
   refine⟨x1,om,hto,fun e=>x4 om,?_⟩
   obtain⟨q,hq1,hq2⟩:=List.mem_map.1 x5
   rw[←hq2,List.length_map]
   have:=(List.sublist_flatten_of_mem hq1).length_le
   rw[h5.length_eq]at this
   rw[List.length_map]at hR2
   omega
 ·rw[um]
  have ho:=yr (n:=s.n) l (rows.map (List.map (aY s.n (s.last+1) (now+9000) B N M))) (by rw[List.length_map];exact h4.symm)
  rw[←List.map_flatten]at ho
  have ho2:=ho.trans (h5.map _)
  refine(((r2 _).trans (p2.append_right R)).append_right _).trans ?_
  refine List.Perm.trans ?_ (hsub.symm.append ho2)
  generalize ownL s.n l (rows.map (List.map (aY s.n (s.last+1) (now+9000) B N M)))=O
  generalize rsAll (outL s.n l (rows.map (List.map (aY s.n (s.last+1) (now+9000) B N M))))=W
  generalize rsAll fl=F
  simp only[List.append_assoc]
  refine(List.perm_append_comm (l₁:=O)).trans ?_
  simp only[List.append_assoc]
  refine List.Perm.append_left _ (List.Perm.append_left _ (List.Perm.append_left _ ?_))
  exact List.perm_append_comm
/-- an object that was put -/
structure ez(B N M:Nat)(data:List Nat)(bl:List (Nat×List (List Nat))):Prop where
 sh:b7 B N M
 b8:B8 data
 dl:data.length=B
 bln:bl.length=blkS B N M
 bla:eQ data B N M bl
section
variable {ip ik u B N M:Nat} {data:List Nat} {bl:List (Nat×List (List Nat))}
noncomputable abbrev RRo(ip ik u B N M:Nat)(bl:List (Nat×List (List Nat))):List Rg:=(recU N 2 bl bl.length).map (aY ip ik u B N M)
theorem part:∀{rs:List Rg},(∀r∈rs,r∈RRo ip ik u B N M bl)→∃rcs:List Rc,rs=rcs.map (aY ip ik u B N M)∧∀r∈rcs,r∈recU N 2 bl bl.length
 |[],_=>⟨[],rfl,fun _ h=>(by cases h)⟩
 |r::rs,h=>by
  obtain⟨rcs,h1,h2⟩:=part (rs:=rs) fun r hr=>h r (by simp[hr])
  obtain⟨q,hq,rfl⟩:=List.mem_map.1 (h r sm)
  exact⟨q::rcs,by rw[h1];rfl,fun x hx=>(List.mem_cons.1 hx).elim (fun e=>e▸hq) (h2 x)⟩
theorem ez.ok(h:ez B N M data bl){rcs:List Rc}(hr:∀r∈rcs,r∈recU N 2 bl bl.length):(∀r∈rcs,l4 N bl r)∧gZ B N M rcs:=by
 obtain⟨h1,h2⟩:=pz (x:=2) h.b8 h.sh om h.bln h.bla
 exact⟨fun r hx=>h1 r (hr r hx),fun r hx=>h2 r (hr r hx)⟩
theorem rQ{ip2 ik2 u2 B2 N2 M2:Nat}{r r2:Rc}(h:aY ip ik u B N M r=aY ip2 ik2 u2 B2 N2 M2 r2):u=u2∧B=B2∧N=N2∧M=M2∧r=r2:=by
 unfold aY at h
 injection h with h1 h2 h3 h4 h5 h6 h7 h8 h9
 refine⟨h3,h4,h5,h6,?_⟩
 cases r;cases r2
 simp only at h7 h8 h9
 rw[h7,h8,h9]
theorem oB{u2 B2 N2 M2:Nat}{a b:List Rc}(h0:a≠[])(h:a.map (aY ip ik u2 B2 N2 M2)=b.map (aY ip ik u B N M)):u2=u∧B2=B∧N2=N∧M2=M∧a=b:=by
 cases a with
 |nil=>exact absurd rfl h0
 |cons x a=>
  cases b with
  |nil=>cases h
  |cons y b=>
   injection h with h1 h2
   obtain⟨rfl,rfl,rfl,rfl,rfl⟩:=rQ h1
   refine⟨rfl,rfl,rfl,rfl,?_⟩
   congr 1
   have:∀{a b:List Rc},a.map (aY ip ik u2 B2 N2 M2)=b.map (aY ip ik u2 B2 N2 M2)→a=b:=by
    intro a
    induction a with
    |nil=>intro b h;cases b with
     |nil=>rfl
     |cons=>cases h
    |cons x a ih=>intro b h;cases b with
     |nil=>cases h
     |cons y b=>
      injection h with h1 h2
      rw[(rQ h1).2.2.2.2,ih h2]
   exact this h2
theorem yB{rs:List Rg}(h:∀r∈rs,r∈RRo ip ik u B N M bl):¬∃r∈rs,jq r=true:=fun⟨r,hr,ht⟩=>by
 obtain⟨q,_,rfl⟩:=List.mem_map.1 (h r hr)
 cases ht
theorem ez.tol(h:ez B N M data bl){st:bi}{o:bI}{e:Int}{d:List Nat}(ht:ig st o e d)(hip:o.ip=ip)(hik:o.ik=ik)(hg:bK st.gone ip ik=none)(hr:∀r∈o.rs,r∈RRo ip ik u B N M bl):e=0∧d=data:=by
 subst hip hik
 rcases ht with⟨h1 | h1,_⟩|⟨_,he,u2,B2,N2,M2,rcs,ql,h1,h2,h3,h4,h5⟩
 ·rw[hg]at h1;cases h1
 ·exact absurd h1 (yB hr)
 ·obtain⟨rcs2,g1,g2⟩:=part hr
  obtain⟨rfl,rfl,rfl,rfl,rfl⟩:=oB h2 (h1.symm.trans g1)
  obtain⟨k1,k2⟩:=h.ok g2
  exact⟨he,h5.trans (gV.data h.b8 h.dl h.sh h.bln h.bla k1 k2 h3 h4)⟩
theorem ez.not_uns(h:ez B N M data bl){rcs:List Rc}(hr:∀r∈rcs,r∈recU N 2 bl bl.length){i:Nat}(hi:i<blkS B N M){es:List Nat}{len:Nat}{d out:List (List Nat)}(hs:dV (lK (kS B N M i)) N len (dB (kS B N M i) es) d out)(hlen:sK (kS B N M i)+2+es.length=len)(hes:∀e∈es,e∈(drp rcs i).map (·.1)):
 ¬fO (lK (kS B N M i)) N (dL (kS B N M i) (drp rcs i)) (dM (kS B N M i) (drp rcs i)) (dD (kS B N M i) N (drp rcs i)):=by
 obtain⟨q,hq⟩:∃q,bl[i]?=some q:=⟨_,List.getElem?_eq_getElem (by rw[h.bln];exact hi)⟩
 have hb:=h.bla i q hq
 obtain⟨k1,k2⟩:=h.ok hr
 rw[←hb.1]at hs hlen⊢
 exact GE h.b8 h.sh hi hq hb k1 k2 hs hlen hes
theorem ez.all(h:ez B N M data bl){st:bi}{o:bI}(ht:eV st o)(hip:o.ip=ip)(hik:o.ik=ik)(hr:∀r∈o.rs,r∈RRo ip ik u B N M bl)(hr2:∀r∈RRo ip ik u B N M bl,r∈o.rs):False:=by
 subst hip hik
 obtain⟨_,u2,B2,N2,M2,rcs,h1,h2⟩:=ht
 obtain⟨rcs2,g1,g2⟩:=part hr
 have hk:=dq h.sh
 have hbp:0<blkS B N M:=by
  rcases Nat.eq_zero_or_pos (blkS B N M)with e | e
  ·have:=hk.2.1
   rw[e]at this
   have:=(fQ h.sh).1
   simp only[cM]at*
   omega
  ·exact e
 obtain⟨q,hq⟩:∃q,bl[0]?=some q:=⟨_,List.getElem?_eq_getElem (by rw[h.bln];exact hbp)⟩
 have hk0:=hk.2.2 0 hbp
 have hb0:=(h.bla 0 q hq).1
 have hin:∀i e q,i<bl.length→bl[i]?=some q→e<q.1→e∈(drp rcs2 i).map (·.1):=fun i e q hi hq he=>by
  have hm:=xc (N:=N) (x:=2) (bl:=bl) bl.length i e q (Nat.le_refl _) hi hq om
  obtain⟨p,hp,rfl⟩:=List.mem_map.1 hm
  obtain⟨r,hr3,rfl⟩:=List.mem_map.1 hp
  obtain⟨hr4,hr5⟩:=List.mem_filter.1 hr3
  have:=hr2 _ (List.mem_map.2 ⟨r,hr4,rfl⟩)
  rw[g1]at this
  obtain⟨r',hr',e'⟩:=List.mem_map.1 this
  obtain⟨_,_,_,_,rfl⟩:=rQ e'
  exact List.mem_map.2 ⟨(r'.e,r'.d),List.mem_map.2 ⟨r',List.mem_filter.2 ⟨hr',hr5⟩,rfl⟩,rfl⟩
 have hne:rcs≠[]:=fun e=>by
  have h3:=hin 0 0 q (by rw[h.bln];exact hbp) hq om
  have:rcs2=[]:=by
   have:=h1.symm.trans g1
   rw[e]at this
   cases rcs2 with
   |nil=>rfl
   |cons=>cases this
  rw[this]at h3
  cases h3
 obtain⟨rfl,rfl,rfl,rfl,rfl⟩:=oB hne (h1.symm.trans g1)
 obtain⟨i,hi,hu⟩:=h2 hne
 obtain⟨q,hq⟩:∃q,bl[i]?=some q:=⟨_,List.getElem?_eq_getElem (by rw[h.bln];exact hi)⟩
 obtain⟨b1,b2⟩:=h.bla i q hq
 have b2:=b2
 rw[b1]at b2
 exact h.not_uns g2 hi b2 rfl (fun e he=>hin i e q (by rw[h.bln];exact hi) hq (by rw[b1];exact List.mem_range.1 he)) hu
theorem ez.excl(h:ez B N M data bl){st:bi}{o:bI}{e:Int}{d:List Nat}(ht:ig st o e d)(hn:eV st o)(hip:o.ip=ip)(hik:o.ik=ik)(hr:∀r∈o.rs,r∈RRo ip ik u B N M bl):False:=by
 subst hip hik
 obtain⟨hg,u3,B3,N3,M3,rcs3,h6,h7⟩:=hn
 rcases ht with⟨h1 | h1,_⟩|⟨_,he,u2,B2,N2,M2,rcs,ql,h1,h2,h3,h4,h5⟩
 ·rw[hg]at h1;cases h1
 ·exact absurd h1 (yB hr)
 ·obtain⟨rcs2,g1,g2⟩:=part hr
  obtain⟨rfl,rfl,rfl,rfl,rfl⟩:=oB h2 (h1.symm.trans g1)
  obtain⟨rfl,rfl,rfl,rfl,rfl⟩:=oB h2 (h1.symm.trans h6)
  obtain⟨i,hi,hu⟩:=h7 h2
  obtain⟨q,hq⟩:∃q,ql[i]?=some q:=⟨_,List.getElem?_eq_getElem (by rw[h3];exact hi)⟩
  obtain⟨k1,k2⟩:=h4 i q hq
  rw[k1]at k2
  refine h.not_uns g2 hi k2 rfl (fun e he=>?_) hu
  obtain⟨p,hp,rfl⟩:=List.mem_map.1 he
  exact List.mem_map.2 ⟨p,pD hp,rfl⟩
end
end Go.Proofs.YtkimkgbppegkhaaGreat.Cm
