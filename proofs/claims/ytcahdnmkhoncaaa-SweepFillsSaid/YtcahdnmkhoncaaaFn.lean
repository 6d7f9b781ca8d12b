/- All functions, as plain data. -/
import Derived.Test.YtcahdnmkhoncaaaFn2
