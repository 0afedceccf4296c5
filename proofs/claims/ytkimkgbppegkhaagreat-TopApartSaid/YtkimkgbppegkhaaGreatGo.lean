/- The clean machine's walks of decoding: blocks joined, an object decoded. -/
import Derived.Test.YtkimkgbppegkhaaGreatGn
set_option linter.unusedVariables false
set_option linter.unusedSimpArgs false
namespace Go.Proofs.YtkimkgbppegkhaaGreat.Cm
open Go Go.RowKit Go.Proofs.YtkimkgbppegkhaaGreat.Gf
set_option maxRecDepth 1000000
theorem ab.none{X Y:Heap}(h:ab X Y){k:Nat}(hk:Y k=Option.none):X k=Option.none:=by
 cases hx:X k with
 |none=>rfl
 |some o=>rw[h _ _ hx]at hk;cases hk
/-- a slice that does not lie in X -/
def eM(X:Heap)(f:F):Prop:=∀id off sz len cap,f=.sl id off sz len cap→X id=Option.none
theorem eM.mono{X Y:Heap}{f:F}(h:eM Y f)(hm:ab X Y):eM X f:=fun _ _ _ _ _ e=>ab.none hm (h _ _ _ _ _ e)
section
variable {P:Program} {H:Heap} {n:Nat} {o:Oper} {r:Operand→Option V}
noncomputable def zX(P:Program)(o:Oper)(r:Operand→Option V):Option (F×Nat×Nat×Nat):=match o.op with
 |.slice t x none hi mx=>match r x,cR r hi,cR r mx with
  |some (.u (.f x)),some (some hi),some (some mx)=>match P.underlying t with
   |some (.slice e)=>match cj P e with
    |some sz=>some (x,sz,hi,mx)
    |none=>none
   |_=>none
  |_,_,_=>none
 |_=>none
theorem Ga{id off sz len L h:Nat}(hL:(H id).bind gj=some L)(hhL:off+h*sz≤L)(hsz:0<sz)(hk:zX P o r=some (.sl id off sz len none,sz,h,h)):aE P o r H n (vf (.sl id (off+0*sz) sz (h-0) (some (h-0)))) H n:=by
 unfold zX at hk
 split at hk
 ·rename_i t x hi' mx' ho
  split at hk
  ·rename_i x' hi2 mx2 h1 h2 h3
   split at hk
   ·rename_i e hu
    split at hk
    ·rename_i sz' hsz'
     cases hk
     have hlo:cR r none=some none:=rfl
     refine .prim (vf (.sl id (off+0*sz) sz (h-0) (some (h-0))),[],0) ?_
     have hcut:d8 len ((none:Option Nat).getD ((L-off)/sz)) none none (some h) (some h)=some (0,h,some h):=by
      simp only[d8,Option.getD_none]
      rw[if_pos ⟨(Nat.le_div_iff_mul_le hsz).2 om,Nat.le_refl _,Nat.zero_le _⟩]
     simp only[ho,stepOp,h1,h2,h3,hlo,hu,hsz',hL,hcut]
     rw[if_pos ⟨trivial,hsz,om⟩]
     rfl
    ·cases hk
   ·cases hk
  ·cases hk
 ·cases hk
end
theorem jb(l k:List Nat):bs (l++k)=bs l++bs k:=by simp[bs]
theorem aB.of_bs{X:Heap}{f:F}{l:List Nat}(h:aF X 1 f=some (bs l))(hb:B8 l)(hl:l.length≤140737488355328):aB X f l:=⟨h,hb,hl⟩
theorem Fv{N:Nat}{rs:List (List Nat)}(h:∀r∈rs,Rw N r):B8 rs.flatten:=fun x hx=>by
 obtain⟨r,hr,hx⟩:=List.mem_flatten.1 hx
 exact(h r hr).2 x hx
theorem wI{N:Nat}:∀{rs:List (List Nat)},(∀r∈rs,Rw N r)→rs.flatten.length=rs.length*N
 |[],_=>by simp
 |r::rs,h=>by
  rw[List.flatten_cons,List.length_append,wI (fun q hq=>h q (by simp[hq])),(h r sm).1,List.length_cons,Nat.add_mul]
  omega
/-- blocks, one behind the other -/
def dX(bls:List (List (List Nat))):List Nat:=(bls.map List.flatten).flatten
theorem qZ(bls:List (List (List Nat)))(b:List (List Nat)):dX (bls++[b])=dX bls++b.flatten:=by simp[dX]
structure pj(B N M:Nat)(bls:List (List (List Nat))):Prop where
 len:bls.length=blkS B N M
 mx:∀i b,bls[i]?=some b→Mx (kS B N M i) N b
theorem wm{B N M:Nat}{bls:List (List (List Nat))}(h:pj B N M bls):∀i,i≤bls.length→(dX (bls.take i)).length=cM (bn B N) M i*N
 |0,_=>by simp[dX,cM]
 |i+1,hi=>by
  have hx:bls[i]?=some bls[i]:=List.getElem?_eq_getElem om
  have hm:=h.mx i _ hx
  rw[e_ om,qZ,List.length_append,wm h i om,wI hm.2,hm.1,cM,Nat.add_mul]
theorem EZ{B N M:Nat}{bls:List (List (List Nat))}(h:pj B N M bls)(i:Nat):B8 (dX (bls.take i)):=fun x hx=>by
 obtain⟨l,hl,hx⟩:=List.mem_flatten.1 hx
 obtain⟨b,hb,rfl⟩:=List.mem_map.1 hl
 obtain⟨j,hj,rfl⟩:=List.mem_iff_getElem.1 (List.mem_of_mem_take hb)
 exact Fv (h.mx j _ (List.getElem?_eq_getElem hj)).2 x hx
theorem Du{rs:List (List Nat)}{q:Nat}(hq:q<rs.length):(rs.take (q+1)).flatten=(rs.take q).flatten++rs[q]:=by rw[e_ hq,List.flatten_append,List.flatten_cons,List.flatten_nil,List.append_nil]
theorem HK{X:Heap}{n:Nat}{b B N M:Nat}{f:F}(l:List Nat)(hr:aB X f l)(hb:X b=some (.cells [.int .i64 ((B:Nat):Int),.int .i64 ((N:Nat):Int),.int .i64 ((M:Nat):Int)] true))(hl:l.length=N)(ht:ap X n):af 56 [vf (f),vf (.ptr (b) (0))] X n fun v X'=>v=vf (.bool false):=by
 refine af.of_to kr ?_
 have s0:=aa.ini ht
 have hm0:ab X X:=ab.rfl
 refine ah 1 (ai 1 (op (some 5) (fw (l:=l.length) (hr.lenA)) (go 1 (op (some 7) (am (off:=1) (x:=.int .i64 ((N:Nat):Int)) (s0.mono _ _ hb) kr) (op (some 8) (au (gg .i64 (x:=((l.length:Nat):Int)) (y:=((N:Nat):Int)) om)) (ax 1 ?_))))))
 exact⟨.inr rfl,_,kr,X,_,s0,hm0,rfl⟩
theorem Dg{X:Heap}{n:Nat}{B N M:Nat}{g:F}(bls:List (List (List Nat)))(h:b7 B N M)(hg:zI bJ X g bls)(hok:pj B N M bls)(ht:ap X n):af 32 [.u (.agg [.int .i64 ((B:Nat):Int),.int .i64 ((N:Nat):Int),.int .i64 ((M:Nat):Int)]),vf (g)] X n fun v X'=>∃z,v=.tup [.f z,.f (.int .i64 0)]∧aB X' z (((dX bls).take B).drop 0)∧eO z∧eM X z:=by
 refine af.of_to kr ?_
 have s0:=aa.ini ht
 have hm0:ab X X:=ab.rfl
 have hbp:=iB h
 have hbl:=hok.len
 obtain⟨hb1,hb2,hn1,hn2,hm1,hm2⟩:=id h
 obtain⟨gs,hr,hG⟩:=hg
 have hgl:gs.length=bls.length:=hG.length.symm
 refine ag ?_
 obtain⟨H1,s2,J3⟩:=cu s0 (.cells [.int .i64 ((B:Nat):Int),.int .i64 ((N:Nat):Int),.int .i64 ((M:Nat):Int)] true)
 refine op (some 2) (J3 _ _ (vf (.ptr (n) (0)))) (ae 2 (aD 0 (ag (op (some 12) (aG (off:=0) (sz:=3) (c:=[.int .i64 ((B:Nat):Int),.int .i64 ((N:Nat):Int),.int .i64 ((M:Nat):Int)]) (s2.at 0 rfl) sm rfl) ?_))))
 obtain⟨_,X4,n5,hc6,hm7,ht8,rfl⟩:=(kJ h s2.topX:af 27 [.u (.agg [.int .i64 ((B:Nat):Int),.int .i64 ((N:Nat):Int),.int .i64 ((M:Nat):Int)])] X (n+1) _)
 obtain⟨H9,hc10,s⟩:=s2.call hc6 hm7 ht8
 have hr:=aO hm7 hr
 refine op (some 13) (jC hc10) (ae 2 (iF (ai 1 (op (some 17) (fw (l:=gs.length) (cQ hr)) (op (some 18) (aG (off:=0) (sz:=3) (c:=[.int .i64 ((B:Nat):Int),.int .i64 ((N:Nat):Int),.int .i64 ((M:Nat):Int)]) (s.at 0 rfl) sm rfl) ?_)))))
 obtain⟨_,W,_,hc14,hm15,ht16,rfl⟩:=(md h s.topX:af 10 [.u (.agg [.int .i64 ((B:Nat):Int),.int .i64 ((N:Nat):Int),.int .i64 ((M:Nat):Int)])] X4 (n5) _)
 obtain⟨_,hc18,s⟩:=s.call hc14 hm15 ht16
 have hm0:=hm0.tr (hm7.tr hm15)
 have hr:=aO hm15 hr
 have hG:=hG.mono fun _ _ q=>q.mono (hm7.tr hm15)
 refine op (some 19) (jC hc18) (op (some 20) (au (gg .i64 (x:=((gs.length:Nat):Int)) (y:=((blkS B N M:Nat):Int)) om)) (ae 1 (ar (nx (ah 1 (aP 1 (op (some 22) (fw (l:=gs.length) (cQ hr)) (ae 1 (bk 1 (lp (aC.for (gs.length) (fun i A Hq nq=>∃(Y:Heap) (a:F) (fs:List F),aL A [(2,vf (.ptr (n) (0))),(6,vf (a)),(21,vf (g)),(22,vf (.int .i64 ((gs.length:Nat):Int))),(23,vf (.int .i64 ((i:Nat):Int)))]∧aa Y Hq nq ([(n,.cells [.int .i64 ((B:Nat):Int),.int .i64 ((N:Nat):Int),.int .i64 ((M:Nat):Int)] true)]++(a_ (a) (fs)++[]))∧(ab X Y)∧(aF Y 1 g=some gs)∧(aw (bJ Y) gs bls)∧(bO 1 a fs)∧(fs=bs (dX (bls.take i)))∧(fs.length≤i*200)) ⟨W,.sl0,[],az (ts:=[2,6,21,22,23]) kr,s,(hm0),(hr),(hG),(bO.nil 1),(rfl),sm⟩ (fun i A H n1 hi hI=>?_) (fun A H n1 hI=>?_))))))))))))
 ·obtain⟨Y,a,fs,hT,s,hm0,hr,hG,ha,hc,hl⟩:=hI
  refine To.keep _ ?_ hT.sub
  have hib:i<bls.length:=by omega
  have hib2:i<blkS B N M:=by rw[←hok.len];exact hib
  have hx:bls[i]?=some bls[i]:=List.getElem?_eq_getElem hib
  have hmx:=hok.mx i _ hx
  have hml:=hmx.1
  have hkb:=(dq h).2.2 i hib2
  obtain⟨lf,hlf,hlr⟩:=hG.atR hx
  obtain⟨lid,loff,lcap,rfl,hlat⟩:=cW hr om
  refine ag (op (some 24) (au (eK .i64 (x:=((i:Nat):Int)) (y:=((gs.length:Nat):Int)) om)) (aQ (aM (nx (aD 2 (ai 1 (op (some 26) (bD (id:=lid) (off:=loff) (sz:=1) (len:=gs.length) (k:=i) om) (op (some 27) (eq (id:=lid) (off:=loff+i*1) (x:=lf) (by rw[Nat.mul_one];exact(hlat i _ hlf).mono (s.mono _))) (ae 2 (aP 1 (op (some 29) (fw (l:=bls[i].length) (hlr.lenA)) (op (some 30) (aG (off:=0) (sz:=3) (c:=[.int .i64 ((B:Nat):Int),.int .i64 ((N:Nat):Int),.int .i64 ((M:Nat):Int)]) (s.at 0 rfl) sm rfl) (go 1 ?_)))))))))))))
  obtain⟨_,W,n2,hc25,hm26,ht27,rfl⟩:=(sL h hib2 s.topX:af 11 [.u (.agg [.int .i64 ((B:Nat):Int),.int .i64 ((N:Nat):Int),.int .i64 ((M:Nat):Int)]),vf (.int .i64 ((i:Nat):Int))] Y (n1) _)
  obtain⟨H,hc29,s⟩:=s.call hc25 hm26 ht27
  have hm0:=hm0.tr hm26
  have hr:=aO hm26 hr
  have hG:=hG.mono fun _ _ q=>q.mono hm26
  have hlr:=hlr.mono hm26
  refine op (some 32) (jC hc29) (op (some 33) (au (gg .i64 (x:=((bls[i].length:Nat):Int)) (y:=((kS B N M i:Nat):Int)) om)) (go 3 ?_))
  obtain⟨_,_,_,hc33,hm34,ht35,rfl⟩:=(((uP (g:=56) (caps:=[.ptr n 0]) (cs:=(hlr.choose)) (fun _=>false) (aO s.mono hlr.choose_spec.1) (by rw[←hlr.choose_spec.2.length];omega) kr (fun j x hx' Y' m' hm' ht'=>by
   obtain⟨r,hr1,hr2⟩:=hlr.choose_spec.2.at hx'
   exact HK r (hr2.mono (s.mono.tr hm')) (hm' _ _ (s.at 0 rfl)) (hmx.2 r (List.mem_of_getElem? hr1)).1 ht') s.top).imp fun v Y h=>xr h):af 43 [vf (lf),.u (.fn 56 [.ptr (n) (0)])] H (n2) _)
  have s:=s.callH hc33 hm34 ht35
  refine op (some 37) (jC hc33) (ae 1 (ar (nx (ai 1 (op (some 40) (fw (l:=bls[i].length) (hlr.lenA)) (ae 1 (bk 3 (lp (aC.for (bls[i].length) (fun q A Hq nq=>∃(Y:Heap) (a:F) (fs:List F),aL A [(2,vf (.ptr (n) (0))),(6,vf (a)),(21,vf (.sl (lid) (loff) 1 (gs.length) lcap)),(22,vf (.int .i64 ((gs.length:Nat):Int))),(23,vf (.int .i64 ((i:Nat):Int))),(39,vf (lf)),(40,vf (.int .i64 ((bls[i].length:Nat):Int))),(41,vf (.int .i64 ((q:Nat):Int)))]∧aa Y Hq nq ([(n,.cells [.int .i64 ((B:Nat):Int),.int .i64 ((N:Nat):Int),.int .i64 ((M:Nat):Int)] true)]++(a_ (a) (fs)++[]))∧(ab X Y)∧(aF Y 1 (.sl lid loff 1 gs.length lcap)=some gs)∧(aw (bJ Y) gs bls)∧(bJ Y lf bls[i])∧(bO 1 a fs)∧(fs=bs (dX (bls.take i)++(bls[i].take q).flatten))∧(fs.length≤i*200+q*20)) ⟨W,a,fs,az (ts:=[2,6,21,22,23,39,40,41]) kr,s,(hm0),(hr),(hG),(hlr),(ha),(by rw[hc];simp),om⟩ (fun q A H n3 hi hI=>?_) (fun A H n3 hI=>?_))))))))))
  ·obtain⟨Y,a,fs,hT,s,hm0,hr,hG,hlr,ha,hc,hl⟩:=hI
   refine To.keep _ ?_ hT.sub
   obtain⟨rid,roff,rcap,rfs,rfl,hR,hrat⟩:=hlr.sl om
   obtain⟨z,hz0,hz1⟩:=hR.nth hi
   have hzr:=hmx.2 _ (List.getElem_mem hi)
   refine ag (op (some 42) (au (eK .i64 (x:=((q:Nat):Int)) (y:=((bls[i].length:Nat):Int)) om)) (aQ (aM (nx (aD 4 (ag (op (some 43) (bD (id:=rid) (off:=roff) (sz:=1) (len:=bls[i].length) (k:=q) om) (op (some 44) (eq (id:=rid) (off:=roff+q*1) (x:=z) (by rw[Nat.mul_one];exact(hrat q z hz0).mono (s.mono _))) (ae 1 (rg (go 2 ?_)))))))))))
   obtain⟨_,_,_,ha43,s,J⟩:=eW (sz:=1) (bytes:=1) (x:=z) (fs:=fs) (new:=bs (bls[i][q])) (M1:=[(n,.cells [.int .i64 ((B:Nat):Int),.int .i64 ((N:Nat):Int),.int .i64 ((M:Nat):Int)] true)]) (M2:=[]) s ha ((hz1.mono s.mono).1) (hz1.lenA) om (by rw[hzr.1];omega)
   refine op (some 47) (J _ _) (ae 1 (rg (op (some 48) (au (eo (q) (1) om)) (aR 1 ?_))))
   exact .inl ⟨rfl,Y,_,_,az (ts:=[2,6,21,22,23,39,40,41]) kr,s,(hm0),(hr),(hG),(hlr),(ha43),(by rw[hc,Du hi,←List.append_assoc,jb _ bls[i][q]]),(by rw[List.length_append,bg,hzr.1];omega)⟩
  ·obtain⟨Y,a,fs,hT,s,hm0,hr,hG,hlr,ha,hc,hl⟩:=hI
   refine To.keep _ ?_ hT.sub
   refine ag (op (some 42) (au (cr .i64 (x:=(((bls[i].length):Nat):Int)) (y:=((bls[i].length:Nat):Int)) sm)) (aQ (iF (To.exit 3 kr ?_))))
   refine⟨sm,?_⟩
   show To Tryz.prog 32 [1,1,1,0,0,1,0,1,1,1] _ _ _ _
   refine rg (op (some 49) (au (eo (i) (1) om)) (aR 1 ?_))
   exact .inl ⟨rfl,Y,_,_,az (ts:=[2,6,21,22,23]) kr,s,(hm0),(hr),(hG),(ha),(by rw[e_ hib,qZ,hc,List.take_length]),(by rw[Nat.add_mul];omega)⟩
 ·obtain⟨Y,a,fs,hT,s,hm0,hr,hG,ha,hc,hl⟩:=hI
  refine To.keep _ ?_ hT.sub
  refine ag (op (some 24) (au (cr .i64 (x:=(((gs.length):Nat):Int)) (y:=((gs.length:Nat):Int)) sm)) (aj ?_))
  have hlen2:gs.length=bls.length:=hG.length.symm
  have hfl:=wm hok bls.length (Nat.le_refl _)
  rw[hlen2,List.take_length]at hc
  rw[List.take_length,hok.len,(dq h).2.1]at hfl
  have hsl:=(fQ h).2.2
  have hfl2:fs.length=(dX bls).length:=by rw[hc,bg]
  obtain⟨ka,la,rfl,hla⟩:=ha.some om
  have hka:X ka=none:=ab.none hm0 (s.own (ka,.cells fs false) (by simp[a_])).2
  obtain⟨W,m,s,hrow,hrowk⟩:=aa.acc (sz:=1) (M1:=[(n,.cells [.int .i64 ((B:Nat):Int),.int .i64 ((N:Nat):Int),.int .i64 ((M:Nat):Int)] true)]) (M2:=[]) (a:=.sl ka 0 1 la none) (fs:=fs) (by simpa using s) ha
  have hm0:=hm0.tr m
  have s:aa W H (n1) [(n,.cells [.int .i64 ((B:Nat):Int),.int .i64 ((N:Nat):Int),.int .i64 ((M:Nat):Int)] true)]:=by simpa using s
  refine sq (iF (To.exit 1 kr ?_))
  refine⟨sm,?_⟩
  show To Tryz.prog 32 [1,1,1,1] _ _ _ _
  refine ai 2 (op (some 52) (am (off:=0) (x:=.int .i64 ((B:Nat):Int)) (s.at 0 rfl) kr) (go 1 (op (some 54) (am (off:=0) (x:=.int .i64 ((B:Nat):Int)) (s.at 0 rfl) kr) (op (some 55) (Ga (id:=ka) (off:=0) (sz:=1) (len:=la) (L:=fs.length) (h:=B) (by rw[s.mono _ _ (hrowk _ _ _ _ _ rfl)];rfl) om om kr) (ax 2 ?_)))))
  exact⟨.inr rfl,_,kr,W,_,s,hm0,_,rfl,(aB.of_bs (by rw[hrow,hc]) (by have:=EZ hok bls.length;rw[List.take_length]at this;exact this) om).cut (cap':=some (B-0)) (l:=0) (h:=B) om om,Nat.le_refl _,fun _ _ _ _ _ e=>by cases e;exact hka⟩
/-- the symbols of a block, among records -/
def drp(rs:List Rc)(i:Nat):List (Nat×List Nat):=(rs.filter fun r=>r.b == i).map fun r=>(r.e,r.d)
theorem xi(rs:List Rc)(r:Rc)(i:Nat):drp (rs++[r]) i=if r.b=i then drp rs i++[(r.e,r.d)]else drp rs i:=by
 unfold drp
 rw[List.filter_append,List.map_append]
 by_cases h:r.b=i
 ·rw[if_pos h];simp[h]
 ·rw[if_neg h];simp[h]
theorem mI{rs:List Rc}{i:Nat}{p:Nat×List Nat}(h:p∈drp rs i):∃r∈rs,r.b=i∧p=(r.e,r.d):=by
 unfold drp at h
 obtain⟨r,hr,rfl⟩:=List.mem_map.1 h
 rw[List.mem_filter]at hr
 exact⟨r,hr.1,by simpa using hr.2,rfl⟩
theorem xN(rs:List Rc)(i:Nat):(drp rs i).length≤rs.length:=by
 unfold drp
 rw[List.length_map]
 exact List.length_filter_le _ _
/-- what decoding a block is about -/
noncomputable abbrev dM(k:Nat)(l:List (Nat×List Nat)):List (List Nat):=dB k ((dd l).map (·.1))
abbrev dD(k N:Nat)(l:List (Nat×List Nat)):List (List Nat):=eS k N ((dd l).map (·.2))
abbrev dL(k:Nat)(l:List (Nat×List Nat)):Nat:=sK k+2+((dd l).map (·.1)).length
noncomputable abbrev gY(N:Nat)(q:Nat×List (List Nat)):List (List Nat):=(List.range q.1).map fun e=>a9 N (cO q.1 e) q.2
/-- a block is decoded -/
def l6(rs:List Rc)(B N M i:Nat)(q:Nat×List (List Nat)):Prop:=q.1=kS B N M i∧dV (lK q.1) N (dL q.1 (drp rs i)) (dM q.1 (drp rs i)) (dD q.1 N (drp rs i)) q.2
def gV(rs:List Rc)(B N M:Nat)(ql:List (Nat×List (List Nat))):Prop:=∀i q,ql[i]?=some q→l6 rs B N M i q
theorem gV.snoc{rs:List Rc}{B N M:Nat}{ql:List (Nat×List (List Nat))}(h:gV rs B N M ql){q:Nat×List (List Nat)}(hq:l6 rs B N M ql.length q):gV rs B N M (ql++[q]):=fun i x hx=>by
 rcases Nat.lt_trichotomy i ql.length with h1 | h1 | h1
 ·rw[List.getElem?_append_left h1]at hx;exact h i x hx
 ·subst h1
  simp at hx
  subst hx
  exact hq
 ·rw[List.getElem?_eq_none (by simp;omega)]at hx;cases hx
/-- records that may be an object's -/
def gZ(B N M:Nat)(rs:List Rc):Prop:=∀r∈rs,gc (kS B N M r.b) r.e∧r.e<16777216∧Rw N r.d
theorem l6.mx{rs:List Rc}{B N M i:Nat}{q:Nat×List (List Nat)}(hok:gZ B N M rs)(h:l6 rs B N M i q):Mx (lK q.1) N q.2:=by
 have:=h.2.mx (lh (k:=q.1) (mZ fun p hp=>by
  obtain⟨r,hr,_,rfl⟩:=mI hp
  exact(hok r hr).2.2))
 exact⟨this.1,this.2⟩
theorem FX{k N:Nat}{cs:List (List Nat)}(hc:Mx (lK k) N cs):Mx k N ((List.range k).map fun e=>a9 N (cO k e) cs):=⟨sm,fun r hr=>by
 obtain⟨e,_,rfl⟩:=List.mem_map.1 hr
 exact mF (iC _ _).2 hc.2⟩
theorem Be{X:Heap}{n:Nat}{ip ik u B N M:Nat}{fr:F}(rs:List Rc)(h:b7 B N M)(hr:j3 ip ik u B N M X fr rs)(hok:gZ B N M rs)(hlt:rs.length<4000)(ht:ap X n):af 16 [.u (.agg [.int .i64 ((B:Nat):Int),.int .i64 ((N:Nat):Int),.int .i64 ((M:Nat):Int)]),vf (fr)] X n fun v X'=>∃g e,v=.tup [.f g,.f (.int .i64 e)]∧((e=0∧∃ql,ql.length=blkS B N M∧gV rs B N M ql∧aB X' g ((dX (ql.map (gY N))).take B)∧eO g∧eM X g)∨(e=4∧g=.sl0∧∃i,i<blkS B N M∧fO (lK (kS B N M i)) N (dL (kS B N M i) (drp rs i)) (dM (kS B N M i) (drp rs i)) (dD (kS B N M i) N (drp rs i)))):=by
 refine af.of_to kr ?_
 have s0:=aa.ini ht
 have hm0:ab X X:=ab.rfl
 have hbp:=iB h
 have hN0:=h.n1
 have hN20:=h.n2
 refine ag ?_
 obtain⟨_,s,J⟩:=cu s0 (.cells [.int .i64 ((B:Nat):Int),.int .i64 ((N:Nat):Int),.int .i64 ((M:Nat):Int)] true)
 refine op (some 2) (J _ _ (vf (.ptr (n) (0)))) (ae 2 (sq (ag (op (some 13) (aG (off:=0) (sz:=3) (c:=[.int .i64 ((B:Nat):Int),.int .i64 ((N:Nat):Int),.int .i64 ((M:Nat):Int)]) (s.at 0 rfl) sm rfl) ?_))))
 obtain⟨_,W,n3,hc56,hm57,ht58,rfl⟩:=(kJ h s.topX:af 27 [.u (.agg [.int .i64 ((B:Nat):Int),.int .i64 ((N:Nat):Int),.int .i64 ((M:Nat):Int)])] X (n+1) _)
 obtain⟨_,hc60,s1⟩:=s.call hc56 hm57 ht58
 refine op (some 14) (jC hc60) (ae 1 (ar (nx (ah 1 (sq (ag (op (some 16) (aG (off:=0) (sz:=3) (c:=[.int .i64 ((B:Nat):Int),.int .i64 ((N:Nat):Int),.int .i64 ((M:Nat):Int)]) (s1.at 0 rfl) sm rfl) ?_)))))))
 obtain⟨_,W,_,hc64,hm65,ht66,rfl⟩:=(md h s1.topX:af 10 [.u (.agg [.int .i64 ((B:Nat):Int),.int .i64 ((N:Nat):Int),.int .i64 ((M:Nat):Int)])] W (n3) _)
 obtain⟨_,hc68,s2⟩:=s1.call hc64 hm65 ht66
 have hm0:=hm0.tr (hm57.tr hm65)
 have hr:=hr.mono cA.mono (hm57.tr hm65)
 refine op (some 17) (jC hc68) (ae 1 (bk 0 (lp (aC.for (blkS B N M) (fun i A Hq nq=>∃(Y:Heap) (a:F) (fs:List F) (ql:List (Nat×List (List Nat))),aL A [(1,vf (fr)),(2,vf (.ptr (n) (0))),(6,vf (a)),(17,vf (.int .i64 ((blkS B N M:Nat):Int))),(18,vf (.int .i64 ((i:Nat):Int)))]∧aa Y Hq nq ([(n,.cells [.int .i64 ((B:Nat):Int),.int .i64 ((N:Nat):Int),.int .i64 ((M:Nat):Int)] true)]++(a_ (a) (fs)++[]))∧(ab X Y)∧(j3 ip ik u B N M Y fr rs)∧(bO 1 a fs)∧(aw (bJ Y) fs (ql.map (gY N)))∧(ql.length=i)∧(gV rs B N M ql)) ⟨W,.sl0,[],[],az (ts:=[1,2,6,17,18]) kr,s2,(hm0),(hr),(bO.nil 1),(trivial),(rfl),(fun _ _ h=>by simp at h)⟩ (fun i A H n4 hi hI=>?_) (fun A H n4 hI=>?_)))))
 ·obtain⟨Y,a,fs,ql,hT,s3,hm0,hr,ha,hA,hql,hD⟩:=hI
  refine To.keep _ ?_ hT.sub
  have hkb:=(dq h).2.2 i hi
  refine ag (op (some 19) (au (eK .i64 (x:=((i:Nat):Int)) (y:=((blkS B N M:Nat):Int)) om)) (aQ (aM (nx (aD 1 (ah 2 (ah 1 (aP 1 (op (some 22) (fw (l:=rs.length) (hr.lenA)) (ae 1 (bk 2 (lp (aC.for (rs.length) (fun j A Hq nq=>∃(Y:Heap) (a2:F) (fs2:List F),aL A [(1,vf (fr)),(2,vf (.ptr (n) (0))),(6,vf (a)),(7,vf (.int .i64 ((i:Nat):Int))),(8,vf (a2)),(17,vf (.int .i64 ((blkS B N M:Nat):Int))),(18,vf (.int .i64 ((i:Nat):Int))),(21,vf (fr)),(22,vf (.int .i64 ((rs.length:Nat):Int))),(23,vf (.int .i64 ((j:Nat):Int)))]∧aa Y Hq nq ([(n,.cells [.int .i64 ((B:Nat):Int),.int .i64 ((N:Nat):Int),.int .i64 ((M:Nat):Int)] true)]++(a_ (a) (fs)++(a_ (a2) (fs2)++[])))∧(ab X Y)∧(j3 ip ik u B N M Y fr rs)∧(aw (bJ Y) fs (ql.map (gY N)))∧(bO 2 a2 fs2)∧(aA (eE Y) 2 (drp (rs.take j) i) fs2)) ⟨Y,.sl0,[],az (ts:=[1,2,6,7,8,17,18,21,22,23]) kr,s3,(hm0),(hr),(hA),(bO.nil 2),(rfl)⟩ (fun j A H n5 hi hI=>?_) (fun A H n5 hI=>?_))))))))))))))
  ·obtain⟨Y,a2,fs2,hT,s4,hm0,hr,hA,ha2,hc⟩:=hI
   refine To.keep _ ?_ hT.sub
   have hx:rs[j]?=some rs[j]:=List.getElem?_eq_getElem hi
   obtain⟨⟨b,e,d⟩,hed⟩:∃x,x=rs[j]:=⟨_,rfl⟩
   rw[←hed]at hx
   obtain⟨rid,roff,rcap,all,ex,c,rfl,h2,h3,h4,g,rfl,hR⟩:=hr.at hx
   have htk:rs.take (j+1)=rs.take j++[⟨b,e,d⟩]:=by rw[e_ hi,←hed]
   have hdl:=xN (rs.take j) i
   rw[List.length_take]at hdl
   have hl2:=hc.len
   refine ag (op (some 24) (au (eK .i64 (x:=((j:Nat):Int)) (y:=((rs.length:Nat):Int)) om)) (aQ (aM (nx (aD 3 (ag (op (some 25) (bD (id:=rid) (off:=roff) (sz:=10) (len:=rs.length) (k:=j) om) (op (some 26) (aG (id:=rid) (off:=roff+j*10) (sz:=10) (c:=[.int .i64 ((ip:Nat):Int),.int .i64 ((ik:Nat):Int),.int .i64 ((B:Nat):Int),.int .i64 ((N:Nat):Int),.int .i64 ((M:Nat):Int),.int .i64 ((b:Nat):Int),.int .i64 ((e:Nat):Int),.bool false,.int .i64 ((u:Nat):Int),g]) (s4.mono _ _ h2) h3 h4) ?_))))))))
   obtain⟨_,s5,J⟩:=cu s4 (.cells [.int .i64 0,.int .i64 0,.int .i64 0,.int .i64 0,.int .i64 0,.int .i64 0,.int .i64 0,.bool false,.int .i64 0,.sl0] true)
   refine op (some 10) (J _ _ (vf (.ptr (n5) (0)))) ?_
   obtain⟨H,s6,J⟩:=dE (off:=0) (new:=[.int .i64 ((ip:Nat):Int),.int .i64 ((ik:Nat):Int),.int .i64 ((B:Nat):Int),.int .i64 ((N:Nat):Int),.int .i64 ((M:Nat):Int),.int .i64 ((b:Nat):Int),.int .i64 ((e:Nat):Int),.bool false,.int .i64 ((u:Nat):Int),g]) (cs':=[.int .i64 ((ip:Nat):Int),.int .i64 ((ik:Nat):Int),.int .i64 ((B:Nat):Int),.int .i64 ((N:Nat):Int),.int .i64 ((M:Nat):Int),.int .i64 ((b:Nat):Int),.int .i64 ((e:Nat):Int),.bool false,.int .i64 ((u:Nat):Int),g]) s5 0 rfl sm rfl
   have s6:aa Y H (n5+1) ([(n5,.cells [.int .i64 ((ip:Nat):Int),.int .i64 ((ik:Nat):Int),.int .i64 ((B:Nat):Int),.int .i64 ((N:Nat):Int),.int .i64 ((M:Nat):Int),.int .i64 ((b:Nat):Int),.int .i64 ((e:Nat):Int),.bool false,.int .i64 ((u:Nat):Int),g] true),(n,.cells [.int .i64 ((B:Nat):Int),.int .i64 ((N:Nat):Int),.int .i64 ((M:Nat):Int)] true)]++(a_ (a) (fs)++(a_ (a2) (fs2)++[]))):=s6
   refine op none (J _ _) (aj (ai 1 (op (some 28) (aG (off:=2) (sz:=3) (c:=[.int .i64 ((B:Nat):Int),.int .i64 ((N:Nat):Int),.int .i64 ((M:Nat):Int)]) (s6.at 0 rfl) sm rfl) (op (some 29) (aG (off:=0) (sz:=3) (c:=[.int .i64 ((B:Nat):Int),.int .i64 ((N:Nat):Int),.int .i64 ((M:Nat):Int)]) (s6.at 1 rfl) sm rfl) (op (some 30) (jo (e:=true) (z:=true) (ks:=[true,true,true]) (xs:=[.int .i64 ((B:Nat):Int),.int .i64 ((N:Nat):Int),.int .i64 ((M:Nat):Int)]) (ys:=[.int .i64 ((B:Nat):Int),.int .i64 ((N:Nat):Int),.int .i64 ((M:Nat):Int)]) (by simp[cm])) ?_)))))
   by_cases hbi:b=i
   ·refine go 2 (op (some 33) (am (off:=7) (x:=.bool false) (s6.at 0 rfl) kr) (go 4 (op (some 38) (am (off:=5) (x:=.int .i64 ((b:Nat):Int)) (s6.at 0 rfl) kr) (go 1 (op (some 40) (au (gR .i64 (x:=((b:Nat):Int)) (y:=((i:Nat):Int)) om)) (ae 1 (iT (rg (go 2 (op (some 44) (am (off:=6) (x:=.int .i64 ((e:Nat):Int)) (s6.at 0 rfl) kr) (go 1 (op (some 46) (am (off:=9) (x:=g) (s6.at 0 rfl) kr) (go 1 ?_)))))))))))))
    obtain⟨W,_,s7,m,f1,J⟩:=bj s6 (.cells [.int .i64 ((e:Nat):Int),g] true)
    have hm0:=hm0.tr m
    have hr:=hr.mono cA.mono m
    have hA:=hA.mono fun _ _ q=>q.mono m
    have hc:=hc.mono fun _ _ h=>h.mono _ _ _ _ m
    have hR:=hR.mono m
    refine op (some 48) (J _ _ (vf (.sl (n5+1) (0) 2 (1) none))) ?_
    obtain⟨a1,H,n6,ha91,s8,J⟩:=eW (sz:=2) (bytes:=32) (x:=.sl (n5+1) (0) 2 (1) none) (fs:=fs2) (new:=[.int .i64 ((e:Nat):Int),g]) (M1:=([(n5,.cells [.int .i64 ((ip:Nat):Int),.int .i64 ((ik:Nat):Int),.int .i64 ((B:Nat):Int),.int .i64 ((N:Nat):Int),.int .i64 ((M:Nat):Int),.int .i64 ((b:Nat):Int),.int .i64 ((e:Nat):Int),.bool false,.int .i64 ((u:Nat):Int),g] true),(n,.cells [.int .i64 ((B:Nat):Int),.int .i64 ((N:Nat):Int),.int .i64 ((M:Nat):Int)] true)]++a_ (a) (fs))) (M2:=[]) (by simpa using s7) ha2 (bf (s7.mono _ _ f1) rfl) (rfl) om om
    have s8:aa W H n6 ([(n5,.cells [.int .i64 ((ip:Nat):Int),.int .i64 ((ik:Nat):Int),.int .i64 ((B:Nat):Int),.int .i64 ((N:Nat):Int),.int .i64 ((M:Nat):Int),.int .i64 ((b:Nat):Int),.int .i64 ((e:Nat):Int),.bool false,.int .i64 ((u:Nat):Int),g] true),(n,.cells [.int .i64 ((B:Nat):Int),.int .i64 ((N:Nat):Int),.int .i64 ((M:Nat):Int)] true)]++(a_ (a) (fs)++(a_ (a1) ((fs2++[.int .i64 ((e:Nat):Int),g]))++[]))):=by simpa using s8
    refine op (some 49) (J _ _) (ae 1 (rg (op (some 50) (au (eo (j) (1) om)) (aR 1 ?_))))
    exact .inl ⟨rfl,W,_,_,az (ts:=[1,2,6,7,8,17,18,21,22,23]) kr,(s8.del 0),(hm0),(hr),(hA),(ha91),(by rw[htk,xi,if_pos hbi];exact hc.snoc ⟨g,rfl,hR⟩ rfl)⟩
   ·refine go 2 (op (some 33) (am (off:=7) (x:=.bool false) (s6.at 0 rfl) kr) (go 4 (op (some 38) (am (off:=5) (x:=.int .i64 ((b:Nat):Int)) (s6.at 0 rfl) kr) (go 1 (op (some 40) (au (jc .i64 (x:=((b:Nat):Int)) (y:=((i:Nat):Int)) om)) (ae 1 (ar (nx (rg (op (some 50) (au (eo (j) (1) om)) (aR 1 ?_)))))))))))
    exact .inl ⟨rfl,Y,_,_,az (ts:=[1,2,6,7,8,17,18,21,22,23]) kr,(s6.del 0),(hm0),(hr),(hA),(ha2),(by rw[htk,xi,if_neg hbi];exact hc)⟩
  ·obtain⟨Y,a2,fs2,hT,s9,hm0,hr,hA,ha2,hc⟩:=hI
   refine To.keep _ ?_ hT.sub
   refine ag (op (some 24) (au (cr .i64 (x:=(((rs.length):Nat):Int)) (y:=((rs.length:Nat):Int)) sm)) (aj ?_))
   rw[List.take_length]at hc
   obtain⟨W,m1,s10,hrow2,hrow2k⟩:=aa.acc (sz:=2) (M1:=([(n,.cells [.int .i64 ((B:Nat):Int),.int .i64 ((N:Nat):Int),.int .i64 ((M:Nat):Int)] true)]++a_ (a) (fs))) (M2:=[]) (a:=a2) (fs:=fs2) (by simpa using s9) ha2
   have hc:=hc.mono fun _ _ h=>h.mono _ _ _ _ m1
   have s10:aa W H (n5) ([(n,.cells [.int .i64 ((B:Nat):Int),.int .i64 ((N:Nat):Int),.int .i64 ((M:Nat):Int)] true)]++(a_ (a) (fs)++[])):=by simpa using s10
   have hdv:lw W a2 (drp rs i):=ch.of_acc ha2 om hrow2k hc
   have hdl:=xN rs i
   refine sq (iF (To.exit 2 kr ?_))
   refine⟨sm,?_⟩
   show To Tryz.prog 16 [1,1,1,0,0,1,1,0,0,1,0,1,1,1] _ _ _ _
   refine sq (dw [0,1,2,3,4,5,6,7,8,9,10,11] (sr (some 52) (n) trivial (aG (off:=0) (sz:=3) (c:=[.int .i64 ((B:Nat):Int),.int .i64 ((N:Nat):Int),.int .i64 ((M:Nat):Int)]) (s10.at 0 rfl) sm rfl) (sg [1] ?_)))
   obtain⟨_,W,n7,hc100,hm101,ht102,rfl⟩:=(sL h hi s10.topX:af 11 [.u (.agg [.int .i64 ((B:Nat):Int),.int .i64 ((N:Nat):Int),.int .i64 ((M:Nat):Int)]),vf (.int .i64 ((i:Nat):Int))] W (n5) _)
   obtain⟨_,hc104,s11⟩:=s10.call hc100 hm101 ht102
   have hr:=hr.mono cA.mono (m1.tr hm101)
   have hdv:=hdv.mono eE.mono hm101
   refine sf (some 54) (jC hc104) (oR kr) (sg [3] (sr (some 56) (n) ⟨ke (s10.at 0 rfl) (s11.at 0 rfl),trivial⟩ (am (off:=1) (x:=.int .i64 ((N:Nat):Int)) (s11.at 0 rfl) kr) (sg [5] ?_)))
   obtain⟨_,W,n8,hc108,hm109,ht110,⟨z,ee,rfl,hz⟩⟩:=(Bw (drp rs i) hkb.1 hkb.2 hdv (fun p hp=>by obtain⟨r,hr,rfl,rfl⟩:=mI hp;exact hok r hr) om hN0 om s11.topX:af 31 [vf (.int .i64 ((kS B N M i:Nat):Int)),vf (.int .i64 ((N:Nat):Int)),vf (a2)] W (n7) _)
   obtain⟨_,hc112,s12⟩:=s11.call hc108 hm109 ht110
   have hm0:=hm0.tr (m1.tr (hm101.tr hm109))
   have hr:=hr.mono cA.mono hm109
   have hA:=hA.mono fun _ _ q=>q.mono (m1.tr (hm101.tr hm109))
   refine sf (some 58) (jC hc112) (oR kr) (sg [7,8,9,10,11] (sx (nx ?_)))
   rcases hz with⟨rfl,cs,hcs,hz⟩|⟨rfl,rfl,hz⟩
   ·have hfl:=hA.length
    rw[List.length_map]at hfl
    refine aP 1 (op (some 62) (au (gg .i64 (x:=(0:Int)) (y:=(0:Int)) om)) (aj (ar (nx (rg (go 2 ?_))))))
    obtain⟨W,_,s13,m2,f2,J⟩:=bj s12 (.cells [z] true)
    have hm0:=hm0.tr m2
    have hr:=hr.mono cA.mono m2
    have hA:=hA.mono fun _ _ q=>q.mono m2
    have hcs:=hcs.mono m2
    refine op (some 66) (J _ _ (vf (.sl (n8) (0) 1 (1) none))) ?_
    obtain⟨_,_,_,ha123,s14,J⟩:=eW (sz:=1) (bytes:=24) (x:=.sl (n8) (0) 1 (1) none) (fs:=fs) (new:=[z]) (M1:=[(n,.cells [.int .i64 ((B:Nat):Int),.int .i64 ((N:Nat):Int),.int .i64 ((M:Nat):Int)] true)]) (M2:=[]) s13 ha (bf (s13.mono _ _ f2) rfl) (rfl) om om
    refine op (some 67) (J _ _) (ae 1 (rg (op (some 68) (au (eo (i) (1) om)) (aR 1 ?_))))
    exact .inl ⟨rfl,W,_,_,ql++[(kS B N M i,cs)],az (ts:=[1,2,6,17,18]) kr,s14,(hm0),(hr),(ha123),(by rw[List.map_append];exact hA.snoc hcs),(by simp[hql]),(hD.snoc ⟨by rw[hql],by rw[hql];exact hz⟩)⟩
   ·refine aP 1 (op (some 62) (au (lB .i64 (x:=(4:Int)) (y:=(0:Int)) om)) (aj (iT (ah 3 (rt (.inr ⟨sm,?_⟩))))))
    exact⟨.inr rfl,_,kr,W,_,s12,hm0,_,_,rfl,.inr ⟨rfl,rfl,i,hi,hz⟩⟩
 ·obtain⟨Y,a,fs,ql,hT,s15,hm0,hr,ha,hA,hql,hD⟩:=hI
  refine To.keep _ ?_ hT.sub
  refine ag (op (some 19) (au (cr .i64 (x:=(((blkS B N M):Nat):Int)) (y:=((blkS B N M:Nat):Int)) sm)) (aj ?_))
  obtain⟨W,m3,s16,hrow,hrowk⟩:=aa.acc (sz:=1) (M1:=[(n,.cells [.int .i64 ((B:Nat):Int),.int .i64 ((N:Nat):Int),.int .i64 ((M:Nat):Int)] true)]) (M2:=[]) (a:=a) (fs:=fs) (by simpa using s15) ha
  have hm0:=hm0.tr m3
  have hA:=hA.mono fun _ _ q=>q.mono m3
  have s16:aa W H (n4) [(n,.cells [.int .i64 ((B:Nat):Int),.int .i64 ((N:Nat):Int),.int .i64 ((M:Nat):Int)] true)]:=by simpa using s16
  have hbo:pj B N M (ql.map (gY N)):=⟨by rw[List.length_map,hql],fun j b hb=>by
   rw[List.getElem?_map,Option.map_eq_some_iff]at hb
   obtain⟨q,hq,rfl⟩:=hb
   have h1:=hD j q hq
   have h2:=FX (h1.mx hok)
   rw[←h1.1];exact h2⟩
  have hm1:=hm0
  refine sq (iF (To.exit 0 kr ?_))
  refine⟨sm,?_⟩
  show To Tryz.prog 16 [1,1,1,1] _ _ _ _
  refine ag (op (some 69) (aG (off:=0) (sz:=3) (c:=[.int .i64 ((B:Nat):Int),.int .i64 ((N:Nat):Int),.int .i64 ((M:Nat):Int)]) (s16.at 0 rfl) sm rfl) (go 1 ?_))
  obtain⟨_,W,_,hc132,hm133,ht134,⟨z,rfl,hz,hzc,hzf⟩⟩:=(Dg (ql.map (gY N)) h ⟨_,hrow,hA⟩ hbo s16.topX:af 32 [.u (.agg [.int .i64 ((B:Nat):Int),.int .i64 ((N:Nat):Int),.int .i64 ((M:Nat):Int)]),vf (a)] W (n4) _)
  obtain⟨_,hc136,s17⟩:=s16.call hc132 hm133 ht134
  have hm0:=hm0.tr hm133
  refine op (some 71) (jC hc136) (ax 4 ?_)
  exact⟨.inr rfl,_,kr,W,_,s17,hm0,_,_,rfl,.inl ⟨rfl,ql,by rw[hql],hD,(by rw[←List.drop_zero (l:=List.take _ _)];exact hz),hzc,hzf.mono hm1⟩⟩
end Go.Proofs.YtkimkgbppegkhaaGreat.Cm
