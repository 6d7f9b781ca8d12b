/- All functions, as plain data. -/
import Derived.Test.YtlaplbkekfnldaaFn2
