/- The clean machine's walks of letters (2): letters as bytes. · The clean machine's walks of letters (3): letters read from bytes. -/
import Derived.Test.YtkimkgbppegkhaaGreatLe
set_option linter.unusedVariables false
set_option linter.unusedSimpArgs false
namespace Go.Proofs.YtkimkgbppegkhaaGreat.Cm
open Go Go.RowKit Go.Proofs.YtkimkgbppegkhaaGreat.Gf
set_option maxRecDepth 1000000
def bV(l:List Nat):List Nat:=(l.map (bq 4)).flatten
def pT(r:Rg):List Nat:=bq 2 (cZ r).length++cZ r
def cG(l:List Rg):List Nat:=(l.map pT).flatten
def lG(l:Lt):List Nat:=[l.kind%256]++bV (ltNums l)++[l.ps.length%256]++bV l.ps++[l.rs.length%256]++cG l.rs
theorem vz(l:List Nat)(x:Nat):bV (l++[x])=bV l++bq 4 x:=by simp[bV]
theorem CU(l:List Rg)(r:Rg):cG (l++[r])=cG l++(bq 2 (cZ r).length++cZ r):=by simp[cG,pT]
theorem gJ:∀(l:List Nat),(bV l).length=4*l.length
 |[]=>rfl
 |x::l=>by
  have:=gJ l
  simp only[bV,List.map_cons,List.flatten_cons,List.length_append,de,List.length_cons]at this⊢
  omega
theorem ry:∀(l:List Rg),(∀r∈l,dy r)→(cG l).length≤46*l.length
 |[],_=>Nat.le_refl _
 |r::l,h=>by
  have h1:=ry l fun x hx=>h x (by simp[hx])
  have h2:=(mw (h r sm)).2
  simp only[cG,pT,List.map_cons,List.flatten_cons,List.length_append,de,List.length_cons]at h1⊢
  omega
theorem wW(l:List Nat):B8 (bV l):=fun x hx=>by
 obtain⟨q,hq,hx⟩:=List.mem_flatten.1 hx
 obtain⟨y,_,rfl⟩:=List.mem_map.1 hq
 exact ga _ _ x hx
theorem sF(a:Nat):B8 [a%256]:=fun x hx=>by
 rw[List.mem_singleton.1 hx];omega
theorem bU{α:Type}{l:List α}{i:Nat}{x:α}(h:l[i]?=some x):l.take (i+1)=l.take i++[x]:=by
 rw[List.take_add_one,h];rfl
theorem FC{X:Heap}{r:Rg}{c:List F}(h:aV X r c):B8 (cZ r):=by
 cases r with
 |sy ip ik u B N M b e d=>obtain⟨g,_,hg⟩:=h;exact xy _ _ _ _ _ _ _ _ hg.2.1
 |tb ip ik u=>exact oJ om _ _ _
theorem EG{X:Heap}{f:F}{l:List Rg}(h:ck X f l):B8 (cG l):=fun x hx=>by
 obtain⟨q,hq,hx⟩:=List.mem_flatten.1 hx
 obtain⟨r,hr,rfl⟩:=List.mem_map.1 hq
 obtain⟨i,hi,rfl⟩:=List.mem_iff_getElem.1 hr
 obtain⟨_,_,_,_,_,_,_,_,_,_,hR⟩:=h.at (List.getElem?_eq_getElem hi)
 exact((ga _ _).app (FC hR)) x hx
theorem av.sl{sz:Nat}{a:F}{fs:List F}{M:List (Nat×O)}(h:av sz a fs M):(a=.sl0∧fs=[])∨∃id len,a=.sl id 0 sz len none:=by
 rcases h with⟨h1,h2,_⟩|⟨k,len,cs,ex,h,_⟩
 ·exact .inl ⟨h1,h2⟩
 ·exact .inr ⟨k,len,h⟩
theorem Fm{X:Heap}{l:Lt}{f:F}(h:ck X f l.rs):B8 (lG l):=(((((sF _).app (wW _)).app (sF _)).app (wW _)).app (sF _)).app (EG h)
theorem AR{X:Heap}{n:Nat}{l:Lt}{fp fq:F}(ok:cT l)(hp:bo X fp l.ps)(hq:ck X fq l.rs)(ht:ap X n):af 90 [.u (.agg [iN l.kind,iN l.fr,iN l.to,iN l.tag,iN l.ip,iN l.ik,fp,fq])] X n fun v X'=>∃k,v=vf k∧aB X' k (lG l)∧∃id len,k=.sl id 0 1 len none:=by
 refine af.of_to kr ?_
 have s0:aa X X n (cat [[]]):=aa.ini ht
 have hm0:ab X X:=ab.rfl
 have hok:=ok
 obtain⟨o1,o2,o3,o4,o5,o6,o7,o8,o9,o,_⟩:=hok
 refine ag ?_
 obtain⟨_,s,J⟩:=ay s0 (.cells [iN l.kind,iN l.fr,iN l.to,iN l.tag,iN l.ip,iN l.ik,fp,fq] true)
 refine ov 1 (J _ _ (vf (.ptr (n) (0)))) (ae 1 (sq (ag (ov 11 (la 0 8 [iN l.kind,iN l.fr,iN l.to,iN l.tag,iN l.ip,iN l.ik,fp,fq] (s.at 0 rfl)) ?_))))
 obtain⟨_,_,_,n1,m,s,J,rfl⟩:=(uc (fp:=fp) (fq:=fq) ok hp hq s.topX).on s
 refine ov 12 (J _ _) (ae 1 (ar (nx (ai 1 (ov 15 (ld 0 (s.at 0 rfl) rfl) (ov 16 (eR (jY (l.kind))) ?_))))))
 obtain⟨_,s,J⟩:=ay s (.cells [.int .u8 (((l.kind)%256:Nat):Int)] true)
 refine ov 17 (J _ _ (vf (.sl (n1) (0) 1 (1) none))) ?_
 have s:=aa.out s
 have ho:av 1 (.sl (n1) (0) 1 (1) none) (bs ([l.kind%256]++bV ((ltNums l).take 0))) [(n1,.cells [.int .u8 (((l.kind)%256:Nat):Int)] true)]:=.inr ⟨_,1,_,true,rfl,rfl,sm,rfl⟩
 refine ae 1 (sq (ag (ov 18 (la 0 8 [iN l.kind,iN l.fr,iN l.to,iN l.tag,iN l.ip,iN l.ik,fp,fq] (s.at 0 rfl)) ?_)))
 obtain⟨_,W,_,_,m1,s,J,⟨g,rfl,hg⟩⟩:=(ui (l:=l) (fp:=fp) (fq:=fq) s.topX).on s
 have hm0:=hm0.tr (m.tr m1)
 have hp:=aO (m.tr m1) hp
 have hq:=hq.mono (m.tr m1)
 refine ov 19 (J _ _) (ov 20 (lv 5 ((cQ hg).trans (by simp[is,ltNums]))) (ae 1 (bk 0 (lp (aC.for (5) (fun i A Hq nq=>∃(Y:Heap) (a:F) (P2:List (Nat×O)),aL A [(1,vf (.ptr (n) (0))),(3,vf (a)),(19,vf (g)),(20,vi 5),(21,vi i)]∧aa Y Hq nq (cat [[(n,.cells [iN l.kind,iN l.fr,iN l.to,iN l.tag,iN l.ip,iN l.ik,fp,fq] true)],P2])∧(ab X Y)∧(bo Y fp l.ps)∧(ck Y fq l.rs)∧(bo Y g (ltNums l))∧(av 1 a (bs ([l.kind%256]++bV ((ltNums l).take i))) P2)) ⟨W,_,_,az (ts:=[1,3,19,20,21]) kr,s,(hm0),(hp),(hq),(hg),(ho)⟩ (fun i A H n2 hi hI=>?_) (fun A H n2 hI=>?_))))))
 ·obtain⟨Y,a,P2,qA,s,hm0,hp,hq,hg,ho⟩:=hI
  refine To.keep _ ?_ qA.sub
  obtain⟨x,hx⟩:∃x,(ltNums l)[i]?=some x:=⟨_,List.getElem?_eq_getElem (by simpa[ltNums]using hi)⟩
  obtain⟨id,off,cap,rfl,hat⟩:=cW hg (by simp[is,ltNums])
  have htk:=bU hx
  have hnl:=gJ ((ltNums l).take i)
  rw[List.length_take]at hnl
  have hll:(is (ltNums l)).length=5:=by simp[is,ltNums]
  have hl5:(ltNums l).length=5:=rfl
  refine ag (ov 22 (lT i 5) (aQ (aM (nx (aD 1 (ag (ov 23 (ix id off 1 ((is ((ltNums l))).length) i) (ov 24 (lx id (off+i*1) (iN x) (by rw[Nat.mul_one];exact(hat i _ (by simp[is,hx])).mono (s.mono _))) (ae 1 (rg (go 2 ?_)))))))))))
  obtain⟨_,W,_,_,m2,s,J,⟨g2,rfl,w⟩⟩:=(eG (v:=x) (w:=4) om om s.topX).on s
  have hm0:=hm0.tr m2
  have hp:=aO m2 hp
  have hq:=hq.mono m2
  have hg:=aO m2 hg
  refine ov 27 (J _ _) ?_
  obtain⟨_,_,_,_,ho134,s,J⟩:=b6 (sz:=1) (bytes:=1) (x:=g2) (new:=bs (bq 4 x)) [_] [] s (ho) (aO s.mono w.1) (w.lenA) om (by have hl5:(ltNums l).length=5:=rfl;simp only[bg,de,List.length_append,List.length_singleton,List.length_take,gJ];omega)
  refine ov 28 (J _ _) (ae 1 (rg (ov 29 (aN i 1) (aR 1 ?_))))
  exact .inl ⟨rfl,W,_,_,az (ts:=[1,3,19,20,21]) kr,s,(hm0),(hp),(hq),(hg),(by rw[htk,vz,←List.append_assoc,jb];exact ho134)⟩
 ·obtain⟨Y,a,P2,qA,s,hm0,hp,hq,hg,ho⟩:=hI
  refine To.keep _ ?_ qA.sub
  refine ag (ov 22 (lF 5 5) (aj ?_))
  have ho:av 1 a (bs ([l.kind%256]++bV (ltNums l))) P2:=ho
  refine sq (iF (xt 0 ?_))
  refine⟨sm,?_⟩
  show To Tryz.prog 90 [1,1,1,1] _ _ _ _
  refine ai 2 (ov 32 (ld 6 (s.at 0 rfl) rfl) (ov 33 (lv l.ps.length ((cQ hp).trans (by simp[is]))) (ov 34 (eR (jY (l.ps.length))) ?_)))
  obtain⟨W,_,s,m3,f,J⟩:=bj s (.cells [.int .u8 (((l.ps.length)%256:Nat):Int)] true)
  have hm0:=hm0.tr m3
  have hp:=aO m3 hp
  have hq:=hq.mono m3
  refine ov 35 (J _ _ (vf (.sl (n2) (0) 1 (1) none))) ?_
  obtain⟨a1,_,_,P,ho148,s,J⟩:=b6 (sz:=1) (bytes:=1) (x:=.sl (n2) (0) 1 (1) none) (new:=[.int .u8 (((l.ps.length)%256:Nat):Int)]) [_] [] s (ho) (bf (s.mono _ _ f) rfl) (rfl) om (by have hl5:(ltNums l).length=5:=rfl;simp only[bg,de,List.length_append,List.length_singleton,List.length_take,gJ];omega)
  refine ov 36 (J _ _) (ae 1 (aP 1 (ov 38 (ld 6 (s.at 0 rfl) rfl) (ov 39 (lv l.ps.length ((cQ hp).trans (by simp[is]))) ?_))))
  have ho:av 1 a1 (bs (([l.kind%256]++bV (ltNums l)++[l.ps.length%256])++bV (l.ps.take 0))) P:=by
   have h:av 1 _ (bs ([l.kind%256]++bV (ltNums l))++bs [l.ps.length%256]) _:=ho148
   rw[←jb]at h
   simpa[bV]using h
  refine ae 1 (bk 2 (lp (aC.for (l.ps.length) (fun i A Hq nq=>∃(Y:Heap) (a:F) (P2:List (Nat×O)),aL A [(1,vf (.ptr (n) (0))),(3,vf (a)),(38,vf (fp)),(39,vi l.ps.length),(40,vi i)]∧aa Y Hq nq (cat [[(n,.cells [iN l.kind,iN l.fr,iN l.to,iN l.tag,iN l.ip,iN l.ik,fp,fq] true)],P2])∧(ab X Y)∧(bo Y fp l.ps)∧(ck Y fq l.rs)∧(av 1 a (bs (([l.kind%256]++bV (ltNums l)++[l.ps.length%256])++bV (l.ps.take i))) P2)) ⟨W,_,_,az (ts:=[1,3,38,39,40]) kr,s,(hm0),(hp),(hq),(ho)⟩ (fun i A H n3 hi hI=>?_) (fun A H n3 hI=>?_))))
  ·obtain⟨Y,a,P2,qA,s,hm0,hp,hq,ho⟩:=hI
   refine To.keep _ ?_ qA.sub
   obtain⟨x,hx⟩:∃x,l.ps[i]?=some x:=⟨_,List.getElem?_eq_getElem (by exact hi)⟩
   obtain⟨id,off,cap,rfl,hat⟩:=cW hp (by simp[is];omega)
   have htk:=bU hx
   have hnl:=gJ (l.ps.take i)
   rw[List.length_take]at hnl
   have hll:(is l.ps).length=l.ps.length:=by simp[is,ltNums]
   have hl5:(ltNums l).length=5:=rfl
   refine ag (ov 41 (lT i l.ps.length) (aQ (aM (nx (aD 3 (ag (ov 42 (ix id off 1 ((is (l.ps)).length) i) (ov 43 (lx id (off+i*1) (iN x) (by rw[Nat.mul_one];exact(hat i _ (by simp[is,hx])).mono (s.mono _))) (ae 1 (rg (go 2 ?_)))))))))))
   obtain⟨_,W,_,_,m4,s,J,⟨g2,rfl,w⟩⟩:=(eG (v:=x) (w:=4) om om s.topX).on s
   have hm0:=hm0.tr m4
   have hp:=aO m4 hp
   have hq:=hq.mono m4
   refine ov 46 (J _ _) ?_
   obtain⟨_,_,_,_,ho164,s,J⟩:=b6 (sz:=1) (bytes:=1) (x:=g2) (new:=bs (bq 4 x)) [_] [] s (ho) (aO s.mono w.1) (w.lenA) om (by have hl5:(ltNums l).length=5:=rfl;simp only[bg,de,List.length_append,List.length_singleton,List.length_take,gJ];omega)
   refine ov 47 (J _ _) (ae 1 (rg (ov 48 (aN i 1) (aR 1 ?_))))
   exact .inl ⟨rfl,W,_,_,az (ts:=[1,3,38,39,40]) kr,s,(hm0),(hp),(hq),(by rw[htk,vz,←List.append_assoc,jb];exact ho164)⟩
  ·obtain⟨Y,a,P2,qA,s,hm0,hp,hq,ho⟩:=hI
   refine To.keep _ ?_ qA.sub
   refine ag (ov 41 (lF l.ps.length l.ps.length) (aj ?_))
   have ho:av 1 a (bs ([l.kind%256]++bV (ltNums l)++[l.ps.length%256]++bV l.ps)) P2:=by rw[List.take_length]at ho;exact ho
   refine sq (iF (xt 2 ?_))
   refine⟨sm,?_⟩
   show To Tryz.prog 90 [1,1,1,1,1,1] _ _ _ _
   refine ai 2 (ov 51 (ld 7 (s.at 0 rfl) rfl) (ov 52 (lv l.rs.length hq.lenA) (ov 53 (eR (jY (l.rs.length))) ?_)))
   obtain⟨W,_,s,m5,f1,J⟩:=bj s (.cells [.int .u8 (((l.rs.length)%256:Nat):Int)] true)
   have hm0:=hm0.tr m5
   have hp:=aO m5 hp
   have hq:=hq.mono m5
   refine ov 54 (J _ _ (vf (.sl (n3) (0) 1 (1) none))) ?_
   obtain⟨a2,_,_,P1,ho178,s,J⟩:=b6 (sz:=1) (bytes:=1) (x:=.sl (n3) (0) 1 (1) none) (new:=[.int .u8 (((l.rs.length)%256:Nat):Int)]) [_] [] s (ho) (bf (s.mono _ _ f1) rfl) (rfl) om (by have hl5:(ltNums l).length=5:=rfl;simp only[bg,de,List.length_append,List.length_singleton,List.length_take,gJ];omega)
   refine ov 55 (J _ _) (ae 1 (aP 1 (ov 57 (ld 7 (s.at 0 rfl) rfl) (ov 58 (lv l.rs.length hq.lenA) ?_))))
   have ho:av 1 a2 (bs (([l.kind%256]++bV (ltNums l)++[l.ps.length%256]++bV l.ps++[l.rs.length%256])++cG (l.rs.take 0))) P1:=by
    have h:av 1 _ (bs ([l.kind%256]++bV (ltNums l)++[l.ps.length%256]++bV l.ps)++bs [l.rs.length%256]) _:=ho178
    rw[←jb]at h
    simpa[cG]using h
   refine ae 1 (bk 4 (lp (aC.for (l.rs.length) (fun i A Hq nq=>∃(Y:Heap) (a:F) (P2:List (Nat×O)),aL A [(1,vf (.ptr (n) (0))),(3,vf (a)),(57,vf (fq)),(58,vi l.rs.length),(59,vi i)]∧aa Y Hq nq (cat [[(n,.cells [iN l.kind,iN l.fr,iN l.to,iN l.tag,iN l.ip,iN l.ik,fp,fq] true)],P2])∧(ab X Y)∧(bo Y fp l.ps)∧(ck Y fq l.rs)∧(av 1 a (bs (([l.kind%256]++bV (ltNums l)++[l.ps.length%256]++bV l.ps++[l.rs.length%256])++cG (l.rs.take i))) P2)) ⟨W,_,_,az (ts:=[1,3,57,58,59]) kr,s,(hm0),(hp),(hq),(ho)⟩ (fun i A H n4 hi hI=>?_) (fun A H n4 hI=>?_))))
   ·obtain⟨Y,a,P2,qA,s,hm0,hp,hq,ho⟩:=hI
    refine To.keep _ ?_ qA.sub
    obtain⟨r,hx⟩:∃r,l.rs[i]?=some r:=⟨_,List.getElem?_eq_getElem hi⟩
    have hrk:=o r (List.mem_of_getElem? hx)
    obtain⟨id,off,cap,all,ex,c,rfl,h2,h3,h4,hR⟩:=hq.at hx
    have hcl:=hR.len
    have htk:=bU hx
    have hrl:=mw hrk
    have hnl:=ry (l.rs.take i) fun x hx=>o x (List.mem_of_mem_take hx)
    rw[List.length_take]at hnl
    refine ag (ov 60 (lT i l.rs.length) (aQ (aM (nx (aD 5 (ag (ov 61 (ix id off 10 l.rs.length i) (ov 62 (aG (id:=id) (off:=off+i*10) (sz:=10) (c:=c) (s.mono _ _ h2) h3 h4) ?_))))))))
    obtain⟨_,s,J⟩:=ay s (.cells [.int .i64 0,.int .i64 0,.int .i64 0,.int .i64 0,.int .i64 0,.int .i64 0,.int .i64 0,.bool false,.int .i64 0,.sl0] true)
    refine ov 9 (J _ _ (vf (.ptr (n4) (0)))) ?_
    obtain⟨_,s,J⟩:=dv (sz:=10) (new:=c) s 0 rfl om rfl
    refine oe (J _ _) (aj (ag (ov 63 (aG (off:=0) (sz:=10) (c:=c) (s.at 0 rfl) om (by rw[List.drop_zero,List.take_of_length_le om])) ?_)))
    obtain⟨_,_,_,_,m6,s,J,⟨g1,rfl,w1⟩⟩:=(uk hR hrk s.topX).on s
    refine ov 64 (J _ _) (ae 1 (ai 2 (ov 67 (lv ((cZ r).length) w1.lenA) ?_)))
    obtain⟨_,W,_,_,m7,s,J,⟨g2,rfl,w2⟩⟩:=(eG (v:=(cZ r).length) (w:=2) om om s.topX).on s
    have hm0:=hm0.tr (m6.tr m7)
    have hp:=aO (m6.tr m7) hp
    have hq:=hq.mono (m6.tr m7)
    have w1:=w1.mono m7
    refine ov 68 (J _ _) ?_
    obtain⟨_,_,_,_,ho206,s,J⟩:=b6 (sz:=1) (bytes:=1) (x:=g2) (new:=bs (bq 2 (cZ r).length)) [_] [] s (ho) (aO s.mono w2.1) (w2.lenA) om (by have hl5:(ltNums l).length=5:=rfl;simp only[bg,de,List.length_append,List.length_singleton,List.length_take,gJ];omega)
    refine ov 69 (J _ _) (ae 1 (rg (go 2 ?_)))
    obtain⟨_,_,_,_,ho213,s,J⟩:=b6 (sz:=1) (bytes:=1) (x:=g1) (new:=bs (cZ r)) [_] [] s (ho206) (aO s.mono w1.1) (w1.lenA) om (by have hl5:(ltNums l).length=5:=rfl;simp only[bg,de,List.length_append,List.length_singleton,List.length_take,gJ];omega)
    refine ov 72 (J _ _) ?_
    have s:=aa.tl s
    refine ae 1 (rg (ov 73 (aN i 1) (aR 1 ?_)))
    exact .inl ⟨rfl,W,_,_,az (ts:=[1,3,57,58,59]) kr,s,(hm0),(hp),(hq),(by rw[htk,CU,←List.append_assoc,←List.append_assoc,jb,jb];exact ho213)⟩
   ·obtain⟨Y,a,P2,qA,s,hm0,hp,hq,ho⟩:=hI
    refine To.keep _ ?_ qA.sub
    refine ag (ov 60 (lF l.rs.length l.rs.length) (aj ?_))
    have hsl:=ho.sl
    obtain⟨W,m8,s,hrow⟩:=av.frz (ho) [_] [] s
    have hm0:=hm0.tr m8
    have hq:=hq.mono m8
    refine sq (iF (xt 4 ?_))
    refine⟨sm,?_⟩
    show To Tryz.prog 90 [1,1,1,1,1,1,1,1] _ _ _ _
    refine ah 2 (rt ?_)
    exact⟨.inr rfl,_,kr,W,_,s,hm0,_,rfl,⟨(by rw[List.take_length]at hrow;exact hrow),Fm hq,by simp only[lG,List.length_append,List.length_singleton,gJ,ltNums,List.length_cons,List.length_nil];have:=ry l.rs o;omega⟩,hsl.resolve_left fun h=>by rw[h.1,List.take_length]at hrow;simp[aF,bs,lG]at hrow⟩
/-- a reader, and what it has left -/
abbrev iY(rid id off len:Nat):List (Nat×O):=[(rid,.cells [.sl id off 1 len none,.bool false] true)]
theorem aB.len'{H:Heap}{id off len:Nat}{r:List Nat}(h:aB H (.sl id off 1 len none) r):r.length=len:=by
 have:=(dG h.1).2.1;rw[bg]at this;omega
theorem wy{X:Heap}{n:Nat}{rid id off len m:Nat}{r:List Nat}(hr:aB X (.sl id off 1 len none) r)(hm:m≤len):al 131 [vf (.ptr (rid) (0)),vi m] X n (iY rid id off len) fun v _ P'=>v=vf (.sl id (off+0*1) 1 (m-0) none)∧P'=iY rid id (off+m*1) (len-m):=by
 refine al.of_to (Ps:=[[(rid,.cells [.sl (id) (off) 1 (len) none,.bool false] true)]]) kr fun R H0 s0=>?_
 have hm0:ab X X:=ab.rfl
 refine ah 1 (aP 4 (ov 10 (ld 0 (s0.at 0 rfl) rfl) (ov 11 (ln len) (ov 12 (gF m len) (aj (ar (nx (ai 3 (ov 22 (ld 0 (s0.at 0 rfl) rfl) (go 1 (ov 24 (d7 (lo:=none) (hi:=some m) (l:=0) (h:=m) (hr.mono s0.mono) rfl rfl om om kr) (ae 1 (ai 4 (ov 29 (ld 0 (s0.at 0 rfl) rfl) (go 1 (ov 31 (d7 (lo:=some m) (hi:=none) (l:=m) (h:=len) (hr.mono s0.mono) rfl rfl om om kr) (go 2 ?_)))))))))))))))))
 obtain⟨_,s,J⟩:=aI (off:=0) (new:=[.sl (id) (off+m*1) 1 (len-m) none]) (cs':=[.sl (id) (off+m*1) 1 (len-m) none,.bool false]) s0 0 rfl sm rfl
 refine oe (J _ _) (aj (ah 2 (rt ?_)))
 exact⟨.inr rfl,_,kr,X,_,aa.fin (Ps:=[_]) s,hm0,rfl,rfl⟩
theorem zL{H:Heap}{id off len m:Nat}{a b:List Nat}(hr:aB H (.sl id off 1 len none) (a++b))(ha:a.length=m):aB H (.sl id (off+0*1) 1 (m-0) none) a∧aB H (.sl id (off+m*1) 1 (len-m) none) b∧m≤len:=by
 have hl:=hr.len'
 rw[List.length_append]at hl
 have h1:=hr.cut (l:=0) (h:=m) (cap':=none) om om
 have h2:=hr.cut (l:=m) (h:=len) (cap':=none) om om
 rw[List.take_left' ha,List.drop_zero]at h1
 rw[List.take_of_length_le (by rw[List.length_append];omega),List.drop_left' ha]at h2
 exact⟨h1,h2,om⟩
theorem kV{X:Heap}{n:Nat}{rid id off len w x:Nat}{rest:List Nat}(hr:aB X (.sl id off 1 len none) (bq w x++rest))(hx:x<256 ^ w)(hw:w≤4):al 129 [vf (.ptr (rid) (0)),vi w] X n (iY rid id off len) fun v X' P'=>v=vi x∧P'=iY rid id (off+w*1) (len-w)∧aB X' (.sl id (off+w*1) 1 (len-w) none) rest:=by
 refine al.of_to (Ps:=[[],iY rid id off len]) kr fun R H0 s0=>?_
 have hm0:ab X X:=ab.rfl
 obtain⟨h1,h2,h3⟩:=zL hr (de w x)
 refine ah 1 (ai 2 ?_)
 obtain⟨_,_,_,_,P2,m,s,J,⟨rfl,rfl⟩⟩:=(wy hr h3).on [_] [_] s0
 have h1:=h1.mono m
 refine ov 7 (J _ _) ?_
 obtain⟨_,W,_,_,m1,s,J,rfl⟩:=(fK h1 hx hw s.topX).on s
 have hm0:=hm0.tr (m.tr m1)
 have h2:=h2.mono (m.tr m1)
 refine ov 8 (J _ _) (ax 1 ?_)
 exact⟨.inr rfl,_,kr,W,_,aa.fin (Ps:=[_,_]) s,hm0,rfl,rfl,h2⟩
theorem Hf(v:Nat):bq 1 v=[v%256]:=by simp[bq]
theorem wP{l:List Nat}{i x:Nat}(h:l[i]?=some x):bV (l.drop i)=bq 4 x++bV (l.drop (i+1)):=by
 have hi:i<l.length:=by
  rcases Nat.lt_or_ge i l.length with h1 | h1
  ·exact h1
  ·rw[List.getElem?_eq_none h1]at h;cases h
 rw[List.getElem?_eq_getElem hi]at h
 cases h
 rw[List.drop_eq_getElem_cons hi]
 simp only[bV,List.map_cons,List.flatten_cons]
theorem Fe{l:List Rg}{i:Nat}{x:Rg}(h:l[i]?=some x):cG (l.drop i)=bq 2 (cZ x).length++(cZ x++cG (l.drop (i+1))):=by
 have hi:i<l.length:=by
  rcases Nat.lt_or_ge i l.length with h1 | h1
  ·exact h1
  ·rw[List.getElem?_eq_none h1]at h;cases h
 rw[List.getElem?_eq_getElem hi]at h
 cases h
 rw[List.drop_eq_getElem_cons hi]
 simp only[cG,pT,List.map_cons,List.flatten_cons,List.append_assoc]
theorem E2{T Z t:List F}{a x:F}{i:Nat}(hz:Z.length=T.length)(hx:T[i]?=some x):aJ (a::((T.take i++Z.drop i)++t)) (i+1) [x]=a::((T.take (i+1)++Z.drop (i+1))++t):=by
 have hi:i<T.length:=by
  rcases Nat.lt_or_ge i T.length with h | h
  ·exact h
  ·rw[List.getElem?_eq_none h]at hx;cases hx
 rw[←vW hz hx]
 have h1:(T.take i++Z.drop i).length=T.length:=by simp;omega
 generalize T.take i++Z.drop i=q at h1⊢
 unfold aJ
 simp only[List.take_succ_cons,List.length_singleton,List.cons_append,List.drop_succ_cons]
 rw[List.take_append_of_le_length om,List.drop_append_of_le_length om]
 simp
theorem Bi{X:Heap}{n:Nat}{id off len:Nat}{l:Lt}(ok:cT l)(hr:aB X (.sl id off 1 len none) (lG l))(ht:ap X n):af 89 [vf (.sl (id) (off) 1 (len) none)] X n fun v X'=>∃c,v=.tup [.agg c,.f (.int .i64 0)]∧bM X' l c:=by
 refine af.of_to kr ?_
 have s0:aa X X n (cat [[]]):=aa.ini ht
 have hm0:ab X X:=ab.rfl
 have hr:aB X (.sl id off 1 len none) (bq 1 l.kind++(bV (ltNums l)++(bq 1 l.ps.length++(bV l.ps++(bq 1 l.rs.length++cG l.rs))))):=by simpa only[lG,Hf,List.append_assoc]using hr
 have hok:=ok
 obtain⟨o1,o2,o3,o4,o5,o6,o7,o8,o9,o12,_⟩:=hok
 refine ag ?_
 obtain⟨_,s,J⟩:=ay s0 (.cells [.int .i64 0,.int .i64 0,.int .i64 0,.int .i64 0,.int .i64 0,.int .i64 0,.sl0,.sl0] true)
 refine ov 2 (J _ _ (vf (.ptr (n) (0)))) (ae 1 (ai 2 ?_))
 obtain⟨_,s1,J⟩:=ay s (.cells [.sl (id) (off) 1 (len) none,.bool false] true)
 refine ov 12 (J _ _ (vf (.ptr (n+1) (0)))) ?_
 have s2:=aa.out s1
 refine ae 1 (ai 1 ?_)
 obtain⟨_,_,_,n1,P2,m1,s3,J,⟨rfl,rfl,hr⟩⟩:=(kV (w:=1) (x:=l.kind) (rest:=bV (ltNums l)++(bq 1 l.ps.length++(bV l.ps++(bq 1 l.rs.length++cG l.rs)))) hr om om).on [_] [] s2
 refine ov 14 (J _ _) (go 1 ?_)
 obtain⟨_,s4,J⟩:=ay s3 (.cells [.int .i64 0,.int .i64 0,.int .i64 0,.int .i64 0,.int .i64 0,.int .i64 0,.sl0,.sl0] true)
 refine ov 5 (J _ _ (vf (.ptr (n1) (0)))) ?_
 obtain⟨_,s5,J⟩:=aI (off:=0) (new:=[iN l.kind,.int .i64 0,.int .i64 0,.int .i64 0,.int .i64 0,.int .i64 0,.sl0,.sl0]) (cs':=[iN l.kind,.int .i64 0,.int .i64 0,.int .i64 0,.int .i64 0,.int .i64 0,.sl0,.sl0]) s4 0 rfl sm rfl
 refine oe (J _ _) (aj (aP 7 ?_))
 obtain⟨W,_,s6,m2,f1,J⟩:=bj s5 (.cells [.ptr (n1) (1),.ptr (n1) (2),.ptr (n1) (3),.ptr (n1) (4),.ptr (n1) (5)] true)
 have hm0:=hm0.tr (m1.tr m2)
 have hr:=hr.mono m2
 refine ov 23 (J _ _ (vf (.sl (n1+1) (0) 1 (5) none))) (ov 24 (ln 5) (ae 1 (bk 0 (lp (aC.for (5) (fun i A Hq nq=>∃(Y:Heap) (o:Nat) (lz:Nat),aL A [(2,vf (.ptr (n) (0))),(4,vf (.ptr (n+1) (0))),(5,vf (.ptr (n1) (0))),(23,vf (.sl (n1+1) (0) 1 (5) none)),(24,vf (.int .i64 5)),(25,vi i)]∧aa Y Hq nq (cat [[(n1,.cells (iN l.kind::(((is (ltNums l)).take i++(is (zs 5)).drop i)++[F.sl0,F.sl0])) true),(n,.cells [.int .i64 0,.int .i64 0,.int .i64 0,.int .i64 0,.int .i64 0,.int .i64 0,.sl0,.sl0] true)],iY (n+1) id o lz])∧(ab X Y)∧(Y (n1+1)=some (.cells [.ptr (n1) 1,.ptr (n1) 2,.ptr (n1) 3,.ptr (n1) 4,.ptr (n1) 5] true))∧(aB Y (.sl id o 1 lz none) (bV ((ltNums l).drop i)++(bq 1 l.ps.length++(bV l.ps++(bq 1 l.rs.length++cG l.rs)))))) ⟨W,_,_,az (ts:=[2,4,5,23,24,25]) kr,s6,(hm0),(f1),(hr)⟩ (fun i A H n2 hi hI=>?_) (fun A H n2 hI=>?_))))))
 ·obtain⟨Y,o,lz,hT,s7,hm0,hpt,hr⟩:=hI
  refine To.keep _ ?_ hT.sub
  have hpi:cn Y (n1+1) (0+i*1) (.ptr (n1) (i+1)):=by
   refine .inl ⟨_,_,hpt,?_⟩
   have h5:i=0∨i=1∨i=2∨i=3∨i=4:=by omega
   rcases h5 with rfl | rfl | rfl | rfl | rfl<;>rfl
  obtain⟨x,hx⟩:∃x,(ltNums l)[i]?=some x:=⟨_,List.getElem?_eq_getElem (by exact hi)⟩
  have hxb:x<256 ^ 4:=by
   have:=List.mem_of_getElem? hx
   simp[ltNums]at this
   omega
  rw[wP hx,List.append_assoc]at hr
  refine ag (ov 26 (lT i 5) (aQ (aM (nx (aD 1 (ag (ov 27 (ix (n1+1) 0 1 5 i) (ov 28 (lx (n1+1) (0+i*1) (.ptr (n1) (i+1)) (hpi.mono (s7.mono _))) (ae 1 (rg (go 2 ?_)))))))))))
  obtain⟨_,W,_,_,P2,m3,s8,J,⟨rfl,rfl,hr⟩⟩:=(kV (w:=4) (x:=x) (rest:=bV ((ltNums l).drop (i+1))++(bq 1 l.ps.length++(bV l.ps++(bq 1 l.rs.length++cG l.rs)))) hr (hxb) om).on [_] [] s7
  have f2:=m3 _ _ hpt
  have hm0:=hm0.tr m3
  refine ov 31 (J _ _) (go 1 ?_)
  obtain⟨_,s9,J⟩:=aI (off:=i+1) (new:=[iN x]) (cs':=iN l.kind::(((is (ltNums l)).take (i+1)++(is (zs 5)).drop (i+1))++[F.sl0,F.sl0])) s8 0 rfl (by simp[is,ltNums];omega) (E2 rfl (by simp[is,hx]))
  refine oe (J _ _) (aj (rg (ov 33 (aN i 1) (aR 1 ?_))))
  exact .inl ⟨rfl,W,_,_,az (ts:=[2,4,5,23,24,25]) kr,s9,(hm0),(f2),(hr)⟩
 ·obtain⟨Y,o,lz,hT,s10,hm0,hpt,hr⟩:=hI
  refine To.keep _ ?_ hT.sub
  refine ag (ov 26 (lF 5 5) (aj ?_))
  have hr:aB Y (.sl id o 1 lz none) (bq 1 l.ps.length++(bV l.ps++(bq 1 l.rs.length++cG l.rs))):=hr
  have s11:aa Y H (n2) (cat [[(n1,.cells [iN l.kind,iN l.fr,iN l.to,iN l.tag,iN l.ip,iN l.ik,.sl0,.sl0] true),(n,.cells [.int .i64 0,.int .i64 0,.int .i64 0,.int .i64 0,.int .i64 0,.int .i64 0,.sl0,.sl0] true)],iY (n+1) id o lz]):=s10
  refine sq (iF (xt 0 ?_))
  refine⟨sm,?_⟩
  show To Tryz.prog 89 [1,1,1,1] _ _ _ _
  refine aP 1 ?_
  obtain⟨_,W,_,_,P2,m4,s12,J,⟨rfl,rfl,hr⟩⟩:=(kV (w:=1) (x:=l.ps.length) (rest:=bV l.ps++(bq 1 l.rs.length++cG l.rs)) hr om om).on [_] [] s11
  have f3:=m4 _ _ hpt
  have hm0:=hm0.tr m4
  refine ov 35 (J _ _) (ae 1 (bk 2 (lp (aC.for (l.ps.length) (fun i A Hq nq=>∃(Y:Heap) (o:Nat) (lz:Nat) (a:F) (P3:List (Nat×O)),aL A [(2,vf (.ptr (n) (0))),(4,vf (.ptr (n+1) (0))),(5,vf (.ptr (n1) (0))),(35,vi l.ps.length),(36,vi i)]∧aa Y Hq nq (cat [[(n1,.cells [iN l.kind,iN l.fr,iN l.to,iN l.tag,iN l.ip,iN l.ik,a,.sl0] true),(n,.cells [.int .i64 0,.int .i64 0,.int .i64 0,.int .i64 0,.int .i64 0,.int .i64 0,.sl0,.sl0] true)],iY (n+1) id o lz,P3])∧(ab X Y)∧(aB Y (.sl id o 1 lz none) (bV (l.ps.drop i)++(bq 1 l.rs.length++cG l.rs)))∧(av 1 a (is (l.ps.take i)) P3)) ⟨W,_,_,.sl0,[],az (ts:=[2,4,5,35,36]) kr,s12,(hm0),(hr),(av.nil 1)⟩ (fun i A H n3 hi hI=>?_) (fun A H n3 hI=>?_)))))
  ·obtain⟨Y,o,lz,a,P3,hT,s13,hm0,hr,ho⟩:=hI
   refine To.keep _ ?_ hT.sub
   obtain⟨x,hx⟩:∃x,l.ps[i]?=some x:=⟨_,List.getElem?_eq_getElem hi⟩
   have hxb:x<256 ^ 4:=by have:=o8 x (List.mem_of_getElem? hx);omega
   rw[wP hx,List.append_assoc]at hr
   refine ag (ov 37 (lT i l.ps.length) (aQ (aM (nx (aD 3 (dw [2,3,0,1,4,5,6,7] (sg [2] ?_)))))))
   obtain⟨_,_,_,n4,P2,m5,s14,J,⟨rfl,rfl,hr⟩⟩:=(kV (w:=4) (x:=x) (rest:=bV (l.ps.drop (i+1))++(bq 1 l.rs.length++cG l.rs)) hr (hxb) om).on [_] [_] s13
   refine sf (some 41) (J _ _) trivial (sg [0] (sr (some 39) (n1) ⟨ke (s13.at 0 rfl) (s14.at 0 rfl),trivial⟩ (am (off:=6) (s14.at 0 rfl) rfl) ?_))
   obtain⟨W,_,s15,m6,f4,J⟩:=bj s14 (.cells [iN x] true)
   have hm0:=hm0.tr (m5.tr m6)
   have hr:=hr.mono m6
   refine sf (some 42) (J _ _ (vf (.sl (n4) (0) 1 (1) none))) ⟨ke (s14.at 0 rfl) (s15.at 0 rfl),trivial⟩ ?_
   obtain⟨a1,_,_,_,ho183,s16,J⟩:=b6 (sz:=1) (bytes:=8) (x:=.sl (n4) (0) 1 (1) none) (new:=[iN x]) [_,_] [] s15 (ho) (bf (s15.mono _ _ f4) rfl) (rfl) om (by simp only[is,List.length_map,List.length_take];omega)
   refine sf (some 43) (J _ _) (oR kr) (sg [6] ?_)
   obtain⟨_,s17,J⟩:=aI (off:=6) (new:=[a1]) (cs':=[iN l.kind,iN l.fr,iN l.to,iN l.tag,iN l.ip,iN l.ik,a1,.sl0]) s16 0 rfl sm rfl
   refine sf none (J _ _) (oR kr) (sx (nx (rg (ov 45 (aN i 1) (aR 1 ?_)))))
   exact .inl ⟨rfl,W,_,_,_,_,az (ts:=[2,4,5,35,36]) kr,s17,(hm0),(hr),(by rw[bU hx];simpa[is]using ho183)⟩
  ·obtain⟨Y,o,lz,a,P3,hT,s18,hm0,hr,ho⟩:=hI
   refine To.keep _ ?_ hT.sub
   refine ag (ov 37 (lF l.ps.length l.ps.length) (aj ?_))
   have hr:aB Y (.sl id o 1 lz none) (bq 1 l.rs.length++cG l.rs):=by rw[List.drop_length]at hr;exact hr
   rw[List.take_length]at ho
   refine sq (iF (xt 2 ?_))
   refine⟨sm,?_⟩
   show To Tryz.prog 89 [1,1,1,1,1] _ _ _ _
   refine aP 1 ?_
   obtain⟨_,W,_,_,P2,m7,s19,J,⟨rfl,rfl,hr⟩⟩:=(kV (w:=1) (x:=l.rs.length) (rest:=cG l.rs) hr om om).on [_] [_] s18
   have hm0:=hm0.tr m7
   refine ov 47 (J _ _) (ae 1 (bk 4 (lp (aC.for (l.rs.length) (fun i A Hq nq=>∃(Y:Heap) (o:Nat) (lz:Nat) (b:F) (P4:List (Nat×O)) (fs:List F),aL A [(2,vf (.ptr (n) (0))),(4,vf (.ptr (n+1) (0))),(5,vf (.ptr (n1) (0))),(47,vi l.rs.length),(48,vi i)]∧aa Y Hq nq (cat [[(n1,.cells [iN l.kind,iN l.fr,iN l.to,iN l.tag,iN l.ip,iN l.ik,a,b] true),(n,.cells [.int .i64 0,.int .i64 0,.int .i64 0,.int .i64 0,.int .i64 0,.int .i64 0,.sl0,.sl0] true)],iY (n+1) id o lz,P3,P4])∧(ab X Y)∧(aB Y (.sl id o 1 lz none) (cG (l.rs.drop i)))∧(av 10 b fs P4)∧(aA (aV Y) 10 (l.rs.take i) fs)) ⟨W,_,_,.sl0,[],[],az (ts:=[2,4,5,47,48]) kr,s19,(hm0),(hr),(av.nil 10),(rfl)⟩ (fun i A H n5 hi hI=>?_) (fun A H n5 hI=>?_)))))
   ·obtain⟨Y,o,lz,b,P4,fs,hT,s20,hm0,hr,hb,hc⟩:=hI
    refine To.keep _ ?_ hT.sub
    obtain⟨r,hx⟩:∃r,l.rs[i]?=some r:=⟨_,List.getElem?_eq_getElem hi⟩
    have hrk:=o12 r (List.mem_of_getElem? hx)
    have hrl:=mw hrk
    have hfl:=hc.len
    rw[List.length_take]at hfl
    rw[Fe hx]at hr
    refine ag (ov 49 (lT i l.rs.length) (aQ (aM (nx (aD 5 (ai 2 ?_))))))
    obtain⟨_,_,_,_,P2,m8,s21,J,⟨rfl,rfl,hr⟩⟩:=(kV (w:=2) (x:=(cZ r).length) (rest:=cZ r++cG (l.rs.drop (i+1))) hr om om).on [_] [_,_] s20
    refine ov 53 (J _ _) ?_
    obtain⟨h1,h2,h3⟩:=zL hr rfl
    obtain⟨_,_,_,_,P2,m9,s22,J,⟨rfl,rfl⟩⟩:=(wy (m:=(cZ r).length) hr h3).on [_] [_,_] s21
    have h1:=h1.mono m9
    refine ov 54 (J _ _) ?_
    obtain⟨_,_,_,n6,m10,s23,J,⟨c,rfl,hR⟩⟩:=(Bo hrk h1 s22.topX).on s22
    refine ov 55 (J _ _) ?_
    have hcl:=hR.len
    refine go 3 ?_
    obtain⟨_,s24,J⟩:=ay s23 (.cells [.int .i64 0,.int .i64 0,.int .i64 0,.int .i64 0,.int .i64 0,.int .i64 0,.int .i64 0,.bool false,.int .i64 0,.sl0] true)
    refine ov 8 (J _ _ (vf (.ptr (n6) (0)))) ?_
    obtain⟨_,s25,J⟩:=dv (sz:=10) (new:=c) s24 0 rfl om rfl
    refine oe (J _ _) ?_
    have s26:=aa.inn [] [_,_] s25
    refine ae 1 (ai 4 (ov 62 (ld 1 (s26.at 0 rfl) rfl) (go 2 (ov 65 (uF 0 0) (go 3 ?_)))))
    obtain⟨_,s27,J⟩:=aI (off:=1) (new:=[.bool false]) (cs':=[.sl (id) (o+2*1+(cZ r).length*1) 1 (lz-2-(cZ r).length) none,.bool false]) s26 0 rfl sm rfl
    refine oe (J _ _) (aj ?_)
    have s28:=aa.outAt [] [_,_,_] s27
    refine rg (go 1 (ov 70 (ld 7 (s28.at 1 rfl) rfl) (ov 71 (aG (off:=0) (sz:=10) (c:=c) (s28.at 0 rfl) om (by rw[List.drop_zero,List.take_of_length_le om])) ?_)))
    obtain⟨W,_,s29,m11,f5,J⟩:=lR (sz:=10) (c:=c) s28 om
    have hm0:=hm0.tr (m8.tr (m9.tr (m10.tr m11)))
    have hc:=hc.mono fun _ _ h=>h.mono _ _ _ _ (m8.tr (m9.tr (m10.tr m11)))
    have h2:=h2.mono (m9.tr (m10.tr m11))
    have hR:=hR.mono _ _ _ _ m11
    refine ov 72 (J _ _) ?_
    obtain⟨a2,_,_,_,ho238,s30,J⟩:=b6 (sz:=10) (bytes:=96) (x:=.sl (n6+1) (0) 10 (1) none) (new:=c) [_,_,_] [] s29 (hb) (bf (s29.mono _ _ f5) om) (rfl) om om
    refine ov 73 (J _ _) ?_
    have s31:=aa.tl s30
    refine go 1 ?_
    obtain⟨_,s32,J⟩:=aI (off:=7) (new:=[a2]) (cs':=[iN l.kind,iN l.fr,iN l.to,iN l.tag,iN l.ip,iN l.ik,a,a2]) s31 0 rfl sm rfl
    refine oe (J _ _) (aj (rg (ov 75 (aN i 1) (aR 1 ?_))))
    exact .inl ⟨rfl,W,_,_,_,_,_,az (ts:=[2,4,5,47,48]) kr,s32,(hm0),(h2),(ho238),(by rw[bU hx];exact hc.snoc hR hcl)⟩
   ·obtain⟨Y,o,lz,b,P4,fs,hT,s33,hm0,hr,hb,hc⟩:=hI
    refine To.keep _ ?_ hT.sub
    refine ag (ov 49 (lF l.rs.length l.rs.length) (aj ?_))
    rw[List.drop_length]at hr
    have hln:lz=0:=hr.len'.symm
    rw[List.take_length]at hc
    obtain⟨_,m12,s34,hq⟩:=av.frzS (hb) (hc) om aV.mono [_,_,_] [] s33
    obtain⟨_,m13,s35,hp⟩:=av.frz (ho) [_,_] [] s34
    have hq:=ck.mono m13 hq
    have s36:=aa.inn [] [] s35
    refine sq (iF (xt 4 ?_))
    refine⟨sm,?_⟩
    show To Tryz.prog 89 [1,1,1,1,1,1] _ _ _ _
    refine aP 3 (ov 79 (ld 1 (s36.at 0 rfl) rfl) (go 4 (ov 84 (ld 0 (s36.at 0 rfl) rfl) (ov 85 (ln lz) (ov 86 (gF lz 0) (go 2 (ov 89 (la 0 8 [iN l.kind,iN l.fr,iN l.to,iN l.tag,iN l.ip,iN l.ik,a,b] (s36.at 1 rfl)) ?_)))))))
    obtain⟨_,W,_,_,m14,s37,J,rfl⟩:=(uc (fp:=a) (fq:=b) ok hp hq s36.topX).on s36
    have hm0:=hm0.tr (m12.tr (m13.tr m14))
    have hq:=ck.mono m14 hq
    have hp:=aO m14 hp
    refine ov 90 (J _ _) (ae 2 (ar (nx (ag (ov 94 (la 0 8 [iN l.kind,iN l.fr,iN l.to,iN l.tag,iN l.ip,iN l.ik,a,b] (s37.at 1 rfl)) ?_)))))
    obtain⟨_,s38,J⟩:=aI (off:=0) (new:=[iN l.kind,iN l.fr,iN l.to,iN l.tag,iN l.ip,iN l.ik,a,b]) (cs':=[iN l.kind,iN l.fr,iN l.to,iN l.tag,iN l.ip,iN l.ik,a,b]) s37 2 rfl sm rfl
    refine oe (J _ _) (ax 1 ?_)
    exact⟨.inr rfl,_,cS (s38.at 2 rfl) kr kr,W,_,s38,hm0,_,rfl,_,_,rfl,hp,hq⟩
end Go.Proofs.YtkimkgbppegkhaaGreat.Cm
